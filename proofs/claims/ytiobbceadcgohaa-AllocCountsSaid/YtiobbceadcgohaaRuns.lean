/- The iterator over the runs of a row: whatever body keeps what lay below, all runs come, or the first ones up to where the body says no more. -/
import Derived.RangeFuncNested
import Derived.RangeFuncBound
import Derived.RangeFuncCalls
import Derived.RangeFuncLeaves
import Derived.RangeFuncFrom
import Derived.RangeFuncBox
import Derived.Shelf.Abstract
import Derived.Shelf.RegionOpen
import Derived.WalkKit
import Derived.OwnWalkIn
import Derived.TacticsInMore
import Derived.LoopNIn
import Derived.LoopIn
import Derived.Lib.Hide
import Derived.Outline
import Derived.Test.YtiobbceadcgohaaProg
import Derived.Test.YtiobbceadcgohaaPure
namespace Go.Proofs.Ytiobbceadcgohaa.Runs
open Go.RowKit Go.Shelf Go.Proofs.Ytiobbceadcgohaa.Pure
attribute [local go_sem] Oper.semAt_some
set_option linter.unusedVariables false

/-- The slice value sv holds the bools zs, in a block below n₀; or there are none. -/
def Bools (n₀ : Nat) (W : World) (sv : Value) (zs : List Bool) : Prop :=
  (∃ a c, sv = .slice a 0 c ∧ zs = []) ∨ ∃ b off cap, sv = .slice (some ⟨b, off, none⟩) zs.length cap ∧ 0 < zs.length ∧ b < n₀ ∧ ∀ j, j < zs.length → W.cell? ⟨b, off + j, none⟩ = some (.bool (us zs j))
theorem Bools.below {n₀ : Nat} {A B : World} (h : Below n₀ A B) {sv : Value} {zs : List Bool} : Bools n₀ A sv zs → Bools n₀ B sv zs
  | .inl e => .inl e
  | .inr ⟨b, off, cap, e, h0, hb, hc⟩ => .inr ⟨b, off, cap, e, h0, hb, fun j hj => (h.cell (p := ⟨b, off + j, none⟩) hb).trans (hc j hj)⟩

/-- What a round keeps: all that lay below n₀, and the iterator's own box Bs. -/
def Kp (n₀ Bs : Nat) (A B : World) : Prop := Below n₀ A B ∧ ∀ cs t fr, A.heap[Bs]? = some (.cells cs t fr) → B.heap[Bs]? = some (.cells cs t fr)
theorem kp_t {n₀ Bs : Nat} {A B C : World} (h : Kp n₀ Bs A B) (k : Kp n₀ Bs B C) : Kp n₀ Bs A C := ⟨h.1.trans k.1, fun cs t fr e => k.2 _ _ _ (h.2 _ _ _ e)⟩
theorem kp_b {n₀ Bs : Nat} {w : World} (hn : n₀ ≤ w.heap.size) (W : World) (l : Nat) (o o' : Obj) (hl : w.heap.size ≤ l) (h : W.heap[l]? = some o) (h1 : o.isCells = false) (h2 : o.isWalk = false) : Kp n₀ Bs W (W.putObj l o') :=
  ⟨belowK_b hn W l o o' hl h h1 h2, fun cs t fr e => by
    have hne : Bs ≠ l := by rintro rfl; rw [h] at e; injection e with e; subst e; cases h1
    exact (World.putObj_heap_other hne).trans e⟩
theorem cell_of_box {W : World} {B : Nat} {v : Value} {t : TypeId} {fr : Nat × Nat} (h : W.heap[B]? = some (.cells #[v] t fr)) : W.cell? ⟨B, 0, none⟩ = some v := (cell_of_row W B 0 #[v] t fr h).trans rfl

def enc2 (x : Nat × Nat) : Array Value := #[.int .i64 (x.1 : Int), .int .i64 (x.2 : Int)]

set_option maxRecDepth 100000 in
set_option maxHeartbeats 2000000 in
theorem runs1_in (F : Fence) (n : Nat) (h24 : F.fn 24) (hro : F.round = none) (hn : 1 ≤ n) (l Bs n₀ b off cap : Nat) (zs : List Bool) (hreach : zs.length ≤ 140737488351232) (hb : b < n₀) (J Jx : List (Nat × Nat) → World → Prop)
    (hY : ∀ pre x W, J pre W → pre.length < zs.length → YieldAt F (n - 1) Try.prog l (enc2 x) W fun e W' =>
      (e = .returned (.bool true) ∧ J (pre ++ [x]) W' ∧ Kp n₀ Bs W W') ∨ (e = .returned (.bool false) ∧ Jx (pre ++ [x]) W'))
    (W : World) (hBs : W.heap[Bs]? = some (.cells #[.slice (some ⟨b, off, none⟩) zs.length cap] 22 (0, 0))) (hc : ∀ j, j < zs.length → W.cell? ⟨b, off + j, none⟩ = some (.bool (us zs j))) (h0 : J [] W) :
    CallsIn F n Try.prog 24 #[.func (.yield l) #[] #[], .pointer (some ⟨Bs, 0, none⟩)] W fun e W' => (∃ v, e = .returned v) ∧
      ((∃ ys, ys = runsL zs ∧ J ys W') ∨ (∃ pre, pre <+: runsL zs ∧ Jx pre W')) := by
  refine callsIn_of_wp Try.func24 rfl h24 ?_ hro
  simp only [Try.ntmps24, List.size_toArray, List.length_cons, List.length_nil, Nat.reduceAdd, Nat.reduceSub, Array.replicate_succ, Array.replicate_zero, List.push_toArray, List.append_toArray, List.nil_append, List.cons_append]
  have hB0 := cell_of_box hBs
  gi_wp2
  gi_loopw [3, 4] (fun i _ wr => ∃ (k : Nat) (pre : List (Nat × Nat)), k ≤ zs.length + 1 ∧ i = .int .i64 k ∧ J pre wr ∧ Below n₀ W wr ∧ wr.heap[Bs]? = some (.cells #[.slice (some ⟨b, off, none⟩) zs.length cap] 22 (0, 0)) ∧ pre ++ rest zs k = runsL zs)
    (fun i _ _ => zs.length + 1 - (intOf i).toNat)
  case atStart => exact ⟨0, [], Nat.zero_le _, rfl, h0, Below.refl _ _, hBs, rfl⟩
  case round =>
    obtain ⟨k, pre, hk, rfl, hJs, hnx, hbx, hpre⟩ := hrel
    have hBx := cell_of_box hbx
    have HBX := Lib.hid hbx; clear hbx hB0
    by_cases hlt : k < zs.length
    · gi_wp2
      obtain ⟨wo, rfl⟩ : ∃ wo : World, wo = wr := ⟨_, rfl⟩
      gi_loopw [4] (fun i w2 => ∃ e : Nat, k ≤ e ∧ e ≤ zs.length ∧ i = .int .i64 e ∧ (∀ j, k ≤ j → j < e → us zs j = false) ∧ w2 = wo) (fun i _ => zs.length - (intOf i).toNat)
      case atStart => exact ⟨k, Nat.le_refl _, by omega, rfl, fun j h1 h2 => by omega, rfl⟩
      case round =>
        obtain ⟨e, he1, he2, rfl, hfree, rfl⟩ := hrel
        by_cases hel : e < zs.length
        · have hce : wr.cell? ⟨b, off + e, none⟩ = some (.bool (us zs e)) := (hnx.cell (p := ⟨b, off + e, none⟩) hb).trans (hc e hel)
          cases hu : us zs e with
          | false =>
            rw [hu] at hce
            have Hf := Lib.hid hfree; have Hu := Lib.hid hu; clear hfree hu
            gi_wp2
            go_roundw
            case rel => exact ⟨e + 1, by omega, by omega, by go_num, fun j h1 h2 => by
              by_cases hje : j < e
              · exact Hf.out j h1 hje
              · obtain rfl : j = e := by omega
                exact Hu.out, by first | rfl | trivial⟩
            case measure => simp [intOf]; omega
          | true =>
            rw [hu] at hce
            have HU : us zs e = true := hu
            clear hu
            have hst : stop zs k = e := stop_eq zs he1 hfree HU
            have Hst := Lib.hid hst; have Hf := Lib.hid hfree; have Hp := Lib.hid hpre; clear hst hfree HU hpre
            by_cases hke : k < e
            · have hrest := rest_run zs k hlt (by rw [Hst.out]; exact hke)
              have hplen : pre.length < zs.length := by
                have h1 := runsL_length zs
                rw [← Hp.out, hrest, List.length_append, List.length_cons] at h1
                omega
              obtain ⟨fn, tmps, assign, body, hy, hR⟩ := hY pre (k, e - k) wr hJs hplen
              have hcast : ((e - k : Nat) : Int) = (e : Int) - (k : Int) := by omega
              dsimp only [enc2] at hy
              rw [hcast] at hy
              have Hr := Lib.hid hrest; clear hcast hrest
              gi_wp2
              refine hR.mono ?_
              rintro e3 W3 (⟨rfl, hJ3, hk3⟩ | ⟨rfl, hJx3⟩)
              · gi_wp2
                go_roundw
                case rel => exact ⟨e + 1, pre ++ [(k, e - k)], by omega, by go_num, hJ3, hnx.trans hk3.1, hk3.2 _ _ _ HBX.out, by rw [← Hp.out, Hr.out, Hst.out, List.append_assoc]; rfl⟩
                case measure => simp [intOf]; omega
              · gi_wp2
                refine bodyPost_ret (results_none rfl _ _ _) rfl ?_
                exact ⟨⟨_, rfl⟩, .inr ⟨_, ⟨rest zs (e + 1), by rw [← Hp.out, Hr.out, Hst.out, List.append_assoc]; rfl⟩, hJx3⟩⟩
            · obtain rfl : k = e := by omega
              have hrest := rest_none zs k hlt (by rw [Hst.out]; omega)
              have Hr := Lib.hid hrest; clear hrest
              gi_wp2
              refine ⟨fun _ h => (by cases h), ?_⟩
              gi_wp2
              go_roundw
              case rel => exact ⟨k + 1, pre, by omega, by go_num, hJs, hnx, HBX.out, by rw [← Hp.out, Hr.out, Hst.out]⟩
              case measure => simp [intOf]; omega
        · have HU : us zs e = true := by unfold us; rw [List.getElem?_eq_none (by omega)]; rfl
          have hst : stop zs k = e := stop_eq zs he1 hfree HU
          have Hst := Lib.hid hst; have Hf := Lib.hid hfree; have Hp := Lib.hid hpre; clear hst hfree HU hpre
          by_cases hke : k < e
          · have hrest := rest_run zs k hlt (by rw [Hst.out]; exact hke)
            have hplen : pre.length < zs.length := by
              have h1 := runsL_length zs
              rw [← Hp.out, hrest, List.length_append, List.length_cons] at h1
              omega
            obtain ⟨fn, tmps, assign, body, hy, hR⟩ := hY pre (k, e - k) wr hJs hplen
            have hcast : ((e - k : Nat) : Int) = (e : Int) - (k : Int) := by omega
            dsimp only [enc2] at hy
            rw [hcast] at hy
            have Hr := Lib.hid hrest; clear hcast hrest
            gi_wp2
            refine hR.mono ?_
            rintro e3 W3 (⟨rfl, hJ3, hk3⟩ | ⟨rfl, hJx3⟩)
            · gi_wp2
              go_roundw
              case rel => exact ⟨e + 1, pre ++ [(k, e - k)], by omega, by go_num, hJ3, hnx.trans hk3.1, hk3.2 _ _ _ HBX.out, by rw [← Hp.out, Hr.out, Hst.out, List.append_assoc]; rfl⟩
              case measure => simp [intOf]; omega
            · gi_wp2
              refine bodyPost_ret (results_none rfl _ _ _) rfl ?_
              exact ⟨⟨_, rfl⟩, .inr ⟨_, ⟨rest zs (e + 1), by rw [← Hp.out, Hr.out, Hst.out, List.append_assoc]; rfl⟩, hJx3⟩⟩
          · exfalso; omega
    · gi_wp2
      go_end0
      exact ⟨⟨_, rfl⟩, .inl ⟨_, by rw [← hpre, rest_end zs k (by omega), List.append_nil], hJs⟩⟩

set_option maxRecDepth 100000 in
set_option maxHeartbeats 1000000 in
theorem runs1_nil (F : Fence) (n : Nat) (h24 : F.fn 24) (hro : F.round = none) (l Bs : Nat) (a : Option Addr) (c : Nat) (J : List (Nat × Nat) → World → Prop) (W : World) (hBs : W.cell? ⟨Bs, 0, none⟩ = some (.slice a 0 c)) (h0 : J [] W) :
    CallsIn F n Try.prog 24 #[.func (.yield l) #[] #[], .pointer (some ⟨Bs, 0, none⟩)] W fun e W' => (∃ v, e = .returned v) ∧ J [] W' := by
  refine callsIn_of_wp Try.func24 rfl h24 ?_ hro
  simp only [Try.ntmps24, List.size_toArray, List.length_cons, List.length_nil, Nat.reduceAdd, Nat.reduceSub, Array.replicate_succ, Array.replicate_zero, List.push_toArray, List.append_toArray, List.nil_append, List.cons_append]
  gi_wp2
  gi_loopw [3] (fun i wr => i = .int .i64 0 ∧ J [] wr ∧ wr = W) (fun _ _ => 0)
  case atStart => exact ⟨rfl, h0, rfl⟩
  case round =>
    obtain ⟨rfl, hJs, rfl⟩ := hrel
    gi_wp2
    go_end0
    exact ⟨⟨_, rfl⟩, hJs⟩

set_option maxHeartbeats 1000000 in
theorem runs_in (F : Fence) (n : Nat) (h21 : F.fn 21) (hro : F.round = none) (a : Option Addr) (len cap : Nat) (w : World) :
    CallsIn F n Try.prog 21 #[.slice a len cap] w fun e w' => e = .returned (.func (.func 24) #[] #[.pointer (some ⟨w.heap.size, 0, none⟩)]) ∧ w' = w.alloc (.cells #[.slice a len cap] 22) := by
  refine callsIn_of_wp Try.func21 rfl h21 ?_ hro
  simp only [Try.ntmps21, List.size_toArray, List.length_cons, List.length_nil, Nat.reduceAdd, Nat.reduceSub, Array.replicate_succ, Array.replicate_zero, List.push_toArray, List.append_toArray, List.nil_append, List.cons_append]
  gi_wp2
  go_ret
  exact ⟨rfl, rfl⟩

theorem runsL_nil : runsL [] = [] := rfl

theorem runs_stops (F : Fence) (n : Nat) (h24 : F.fn 24) (hro : F.round = none) (hn : 1 ≤ n) (Bs n₀ : Nat) (sv : Value) (zs : List Bool) (hreach : zs.length ≤ 140737488351232) (w : World) (hn₀ : n₀ ≤ w.heap.size)
    (hc : w.heap[Bs]? = some (.cells #[sv] 22 (0, 0))) (hI : Bools n₀ w sv zs) :
    SeqStopsK F n Try.prog 24 #[.pointer (some ⟨Bs, 0, none⟩)] enc2 (Kp n₀ Bs) (fun ys => ys = runsL zs) (fun pre => pre <+: runsL zs) zs.length w := fun l J Jx W hW _ _ hY h0 => by
  have hc' := (hW.block Bs (Array.getElem?_eq_some_iff.1 hc).1).trans hc
  rcases hI.below (hW.mono hn₀) with ⟨a, c, rfl, rfl⟩ | ⟨b, off, cap, rfl, hpos, hb, hcs⟩
  · exact (runs1_nil F n h24 hro l Bs a c J W (cell_of_box hc') h0).mono fun e W' ⟨he, hj⟩ => ⟨he, .inl ⟨_, rfl, hj⟩⟩
  · refine (runs1_in F n h24 hro hn l Bs n₀ b off cap zs hreach hb J Jx hY W hc' hcs h0).mono ?_
    rintro e W' ⟨he, ⟨ys, rfl, hj⟩ | ⟨pre, hk, hj⟩⟩
    · exact ⟨he, .inl ⟨_, rfl, hj⟩⟩
    · exact ⟨he, .inr ⟨_, hk, hj⟩⟩
end Go.Proofs.Ytiobbceadcgohaa.Runs
