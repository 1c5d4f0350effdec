/- Find, Longest and Free of a row, and a row's copy, in the form in which the printed walks call them. -/
import Derived.Test.YtiobbceadcgohaaProg
import Derived.Below
import Derived.Deep.Draws
import Derived.Deep.AppendLies
import Derived.Maps.AppendAt
import Derived.OwnWalk
import Derived.Laws.BytesArg
import Derived.Laws.MakeOwn
import Derived.Laws.OwnMore
import Derived.Deep.OwnRows
import Derived.Tactics
import Derived.Lib.ConvBytes
import Derived.Laws.Slices
import Derived.WalkKit
import Derived.KernelRfl
import Derived.RowKit3
import Derived.Deep.LoopGhost
import Derived.Deep.QuietTactic
import Derived.BigQuiet
import Derived.WideLaws
import Derived.Deep.DeepCutAuto
import Derived.Deep.CutBlock
import Derived.Deep.RegionHeld3
import Derived.Laws.Rows
import Derived.Lib.AppendStr
import Derived.ArgAppend
import Derived.Laws.IdiomCopy
import Derived.OrdersHeld
import Derived.Laws.BitsLemmas
import Derived.RowKit
import Derived.Test.YtiobbceadcgohaaWWords
import Derived.Test.YtiobbceadcgohaaWLast
import Derived.Test.YtiobbceadcgohaaWTab
import Derived.Test.YtiobbceadcgohaaWFour
import Derived.Test.YtiobbceadcgohaaWQPut
import Derived.Test.YtiobbceadcgohaaWApart
import Derived.Test.YtiobbceadcgohaaWArr
import Derived.Test.YtiobbceadcgohaaWZeros
import Derived.Test.YtiobbceadcgohaaWFoot
import Derived.Test.YtiobbceadcgohaaWKept
import Derived.Test.YtiobbceadcgohaaWShare
import Derived.Test.YtiobbceadcgohaaWN
import Derived.Test.YtiobbceadcgohaaWFootNe
import Derived.Test.YtiobbceadcgohaaWAt
import Derived.Test.YtiobbceadcgohaaWEqStruct
import Derived.Test.YtiobbceadcgohaaWRepsOne
import Derived.Test.YtiobbceadcgohaaWInv
import Derived.Test.YtiobbceadcgohaaWInvWords
import Derived.Test.YtiobbceadcgohaaWGuard
import Derived.Test.YtiobbceadcgohaaWNEv
import Derived.Test.YtiobbceadcgohaaWMore
import Derived.Lib.SliceRun
import Derived.Test.YtiobbceadcgohaaCallers
namespace Go.Proofs.Ytiobbceadcgohaa.X
open Go.RowKit Go.Proofs.YtiobbceadcgohaaW.PrintWords Go.Proofs.YtiobbceadcgohaaW.PrintLast Go.Proofs.YtiobbceadcgohaaW.PrintMore
open Go.Proofs.Ytiobbceadcgohaa.Pure Go.Proofs.Ytiobbceadcgohaa.Runs Go.Proofs.Ytiobbceadcgohaa.Callers
set_option linter.unusedVariables false
set_option linter.unusedSimpArgs false

theorem us_get (l : List Bool) (j : Nat) (h : j < l.length) : l[j]? = some (us l j) := by simp [us, List.getElem?_eq_getElem h]
/-- What the print says of a row of bools that is read, in the iterator's words. -/
theorem bools_of_C {w : World} {A : Option Addr} {c : Nat} {l : List Bool} (h : Kd.C Kd.bool w A l.length l) : Bools w.heap.size w (.slice A l.length c) l := by
  rcases Nat.eq_zero_or_pos l.length with h0 | h0
  · exact .inl ⟨A, c, by rw [h0], List.eq_nil_of_length_eq_zero h0⟩
  · obtain ⟨ad, rfl, hc⟩ := h.2.2 h0
    have hcell : ∀ j, j < l.length → w.cell? (ad.add j) = some (.bool (us l j)) := fun j hj => by
      obtain ⟨cs, hl, hk, hcs⟩ := hc j _ (us_get l j hj)
      have e : cs = [.bool (us l j)] := hk
      subst e
      have := hcs 0 _ rfl
      simpa [Kd.bool, Kd.scalar] using this
    obtain ⟨b, off, spot⟩ := ad
    have hspot : spot = none := by simpa [Addr.add] using World.cell?_spot (hcell 0 h0)
    subst hspot
    have hc' : ∀ j, j < l.length → w.cell? ⟨b, off + j, none⟩ = some (.bool (us l j)) := fun j hj => by rw [← Go.WideShapes.add_plain]; exact hcell j hj
    exact .inr ⟨b, off, c, rfl, h0, World.block_lt_of_cell? w _ (hc' 0 h0), hc'⟩

/-- What Find answers. -/
def fnd (l : List Bool) (m : Int) : Int × Int := if m < 1 then (0, 2) else findR (runsL l) m
def alloc_Find.f (l0 : List Bool) (a1 : Int) : Option (Int × Int) := if l0.length ≤ 140737488351232 then some (fnd l0 a1) else none
theorem alloc_Find.calls (A0 : Option Addr) (c0 : Nat) (l0 : List Bool) (a1 : Int) (r1 : Int) (r2 : Int) (w : World) (hr0 : Kd.C Kd.bool w A0 l0.length l0) (hc0 : l0.length ≤ c0) (h : alloc_Find.f l0 a1 = some (r1, r2)) :
    Calls Try.prog 10 #[.slice A0 l0.length c0, .int .i64 a1] w fun e w' => e = .returned (.tuple #[.int .i64 r1, .int .i64 r2]) ∧ Below w.heap.size w w' := by
  unfold alloc_Find.f at h
  by_cases hl : l0.length ≤ 140737488351232
  · rw [if_pos hl] at h
    have e := Option.some.inj h
    unfold fnd at e
    by_cases hm : a1 < 1
    · rw [if_pos hm] at e
      injection e with e1 e2
      subst e1 e2
      exact callsIn_wide.1 (find_arg Fence.wide 3 trivial rfl _ _ _ _ w hm)
    · rw [if_neg hm] at e
      have := callsIn_wide.1 (find_in Fence.wide 3 trivial trivial trivial rfl (Nat.le_refl _) A0 l0.length c0 a1 l0 hl w (bools_of_C hr0) (by omega))
      rw [e] at this
      exact this
  · rw [if_neg hl] at h; cases h
def alloc_Longest.f (l0 : List Bool) : Option Int := if l0.length ≤ 140737488351232 then some (maxR (runsL l0) : Int) else none
theorem alloc_Longest.calls (A0 : Option Addr) (c0 : Nat) (l0 : List Bool) (r : Int) (w : World) (hr0 : Kd.C Kd.bool w A0 l0.length l0) (hc0 : l0.length ≤ c0) (h : alloc_Longest.f l0 = some r) :
    Calls Try.prog 13 #[.slice A0 l0.length c0] w fun e w' => e = .returned (.int .i64 r) ∧ Below w.heap.size w w' := by
  unfold alloc_Longest.f at h
  by_cases hl : l0.length ≤ 140737488351232
  · rw [if_pos hl] at h
    obtain rfl := Option.some.inj h
    exact callsIn_wide.1 (longest_in Fence.wide 3 trivial trivial trivial rfl (Nat.le_refl _) A0 l0.length c0 l0 hl w (bools_of_C hr0))
  · rw [if_neg hl] at h; cases h
def alloc_Free.f (l0 : List Bool) : Option Int := if l0.length ≤ 140737488351232 then some (wsum (runsL l0)) else none
theorem alloc_Free.calls (A0 : Option Addr) (c0 : Nat) (l0 : List Bool) (r : Int) (w : World) (hr0 : Kd.C Kd.bool w A0 l0.length l0) (hc0 : l0.length ≤ c0) (h : alloc_Free.f l0 = some r) :
    Calls Try.prog 14 #[.slice A0 l0.length c0] w fun e w' => e = .returned (.int .i64 r) ∧ Below w.heap.size w w' := by
  unfold alloc_Free.f at h
  by_cases hl : l0.length ≤ 140737488351232
  · rw [if_pos hl] at h
    obtain rfl := Option.some.inj h
    exact callsIn_wide.1 (free_in Fence.wide 3 trivial trivial trivial rfl (Nat.le_refl _) A0 l0.length c0 l0 hl w (bools_of_C hr0))
  · rw [if_neg hl] at h; cases h
theorem info4 : (Try.prog.info? 4).map (fun i => (i.zero, i.size, i.bytes)) = some (some (.bool false), 1, 1) := by kernel_rfl

def slices_Clone_bool_bool.f (l0 : List Bool) : Option (List Bool) := if l0.length < 140737488355328 then some l0 else none
set_option maxHeartbeats 2000000 in
set_option maxRecDepth 100000 in
theorem slices_Clone_bool_bool.calls (A0 : Option Addr) (c0 : Nat) (l0 : List Bool) (r : List Bool) (w : World) (hr0 : Kd.C Kd.bool w A0 l0.length l0) (hc0 : l0.length ≤ c0) (h : slices_Clone_bool_bool.f l0 = some r) :
    Calls Try.prog 23 #[.slice A0 l0.length c0] w fun e w' => ∃ v0_ : Value, e = .returned (v0_) ∧ Kd.R Kd.bool 4 w' w.heap.size (fun _ => True) v0_ r ∧ Below w.heap.size w w' := by
  unfold slices_Clone_bool_bool.f at h
  by_cases hlim : l0.length < 140737488355328
  · rw [if_pos hlim] at h
    obtain rfl := Option.some.inj h
    have HR0 := Aside0.mk hr0
    have HB := Aside0.mk (Below.refl w.heap.size w)
    have hq := fun W => Lib.run_eql_slice_nil (P := Try.prog) W 22 4 A0 l0.length c0 0 0 Try.underlying22
    cases A0 with
    | none =>
      have hl : l0 = [] := by
        rcases Nat.eq_zero_or_pos l0.length with h0 | h0
        · exact List.eq_nil_of_length_eq_zero h0
        · obtain ⟨ad, e, _⟩ := hr0.2.2 h0; cases e
      subst hl
      clear hr0 HR0
      simp only [List.length_nil] at hq
      go_enter Try.func23, Try.ntmps23
      go_wp2
      go_ret
      exact ⟨_, rfl, Kd.R_nil _ _ _ _ _, HB.out⟩
    | some ad =>
      have LM := Aside0.mk hlim
      clear hr0 hlim
      go_enter Try.func23, Try.ntmps23
      go_wp2_with (first | ((with_reducible refine gate_dst (N := 5) rfl ?_); refine Kd.R_lit Kd.bool _ 4 ?hg (N := 5) ?hd (xs := ([] : List Bool)) (inner := []) (ok := fun _ => True) (okp := fun _ => True) ?hr ?hp (fun _ hk => hk) trivial (Below.refl _ _) (Nat.le_refl _) (by simp) ?_; (case hd => rfl); (case hg => rfl); (case hr => first | (go_simp; done) | (go_simp; rfl)); (case hp => exact (Reps.none _ _)); intro v5 w5 ho5 hb hg_ hnew_; clear hg_ hnew_; have n0_ := Aside0.mk (Kd.R_lower ho5 (below_size (by repeat (first | (with_reducible first | exact HB.out | apply below_alloc | apply pw_below_drewN | apply below_drew1) | exact HB.out)))); have n1_ := Aside0.mk (below_step (by repeat (first | (with_reducible first | exact HB.out | apply below_alloc | apply pw_below_drewN | apply below_drew1) | exact HB.out)) hb); clear HB; have HO := n0_; have HB := n1_; clear n0_ n1_; clear hb ho5) | ((with_reducible refine gate_builtin (b := .append) (xs := #[.tmp 5, .tmp 6]) rfl ?_); at_builtin; refine Kd.R_append_rows Kd.bool (w0 := w) w.heap.size rfl (.tmp 5) (.tmp 6) 22 4 (.bool false) 1 rfl Try.underlying22 info4 rfl (by decide) (by omega) v5 [] l0 _ _ _ (fun _ => True) (fun _ => False) rfl rfl ?aO ?aR (fun _ _ h => h) (fun _ h => h.elim) ?aF ?aB ?aS ?aL ?_; (case aR => repeat (first | exact (Kd.C_below HR0.out HB.out) | (with_reducible refine Kd.C_alloc ?_ _) | (with_reducible refine Kd.C_drewN ?_ _) | (with_reducible refine Kd.C_drew ?_))); (case aB => exact (by repeat (first | (with_reducible first | exact HB.out | apply below_alloc | apply pw_below_drewN | apply below_drew1) | exact HB.out))); (case aF => exact (fun _ _ => trivial)); (case aO => exact (by (with_reducible repeat (first | apply Kd.R_alloc | apply Kd.R_drewN | apply Kd.R_drew)); exact HO.out)); (case aS => exact (below_size (by repeat (first | (with_reducible first | exact HB.out | apply below_alloc | apply pw_below_drewN | apply below_drew1) | exact HB.out)))); (case aL => have := LM.out; simp only [List.length_nil]; omega); intro v7 w7 ho hb hg hat; have n0_ := Aside0.mk (hb); have n1_ := Aside0.mk (ho); clear HB; clear HO; have HB := n0_; have HO := n1_; clear n0_ n1_; clear ho hb hg hat))
      go_ret
      exact ⟨_, rfl, by simpa using HO.out, HB.out⟩
  · rw [if_neg hlim] at h; cases h

end Go.Proofs.Ytiobbceadcgohaa.X
