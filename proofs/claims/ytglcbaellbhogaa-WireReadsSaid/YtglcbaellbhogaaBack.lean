/- The iterator over bytes from behind (slices.Backward), whatever body keeps what lay below. -/
import Derived.RangeFuncNested
import Derived.RangeFuncBound
import Derived.RangeFuncCalls
import Derived.RangeFuncLeaves
import Derived.RangeFuncFrom
import Derived.RangeFuncBox
import Derived.Shelf.Abstract
import Derived.Shelf.RegionOpen
import Derived.WalkKit
import Derived.OwnWalkIn
import Derived.TacticsInMore
import Derived.LoopNIn
import Derived.LoopIn
import Derived.Lib.Hide
import Derived.Outline
import Derived.Test.YtglcbaellbhogaaProg
namespace Go.Proofs.Ytglcbaellbhogaa.Back
open Go.RowKit Go.Shelf
attribute [local go_sem] Oper.semAt_some
set_option linter.unusedVariables false

/-- A byte of a row. -/
def at0 (zs : List Int) (k : Nat) : Int := zs[k]?.getD 0
/-- The slice value sv holds the bytes zs, in a block below n₀; or there are none. -/
def Bytes (n₀ : Nat) (W : World) (sv : Value) (zs : List Int) : Prop :=
  (∃ a c, sv = .slice a 0 c ∧ zs = []) ∨ ∃ b off cap, sv = .slice (some ⟨b, off, none⟩) zs.length cap ∧ 0 < zs.length ∧ b < n₀ ∧ ∀ j, j < zs.length → W.cell? ⟨b, off + j, none⟩ = some (.int .u8 (at0 zs j))
theorem Bytes.below {n₀ : Nat} {A B : World} (h : Below n₀ A B) {sv : Value} {zs : List Int} : Bytes n₀ A sv zs → Bytes n₀ B sv zs
  | .inl e => .inl e
  | .inr ⟨b, off, cap, e, h0, hb, hc⟩ => .inr ⟨b, off, cap, e, h0, hb, fun j hj => (h.cell (p := ⟨b, off + j, none⟩) hb).trans (hc j hj)⟩

/-- What a round keeps: all that lay below n₀, and the iterator's own box Bs. -/
def Kp (n₀ Bs : Nat) (A B : World) : Prop := Below n₀ A B ∧ ∀ cs t fr, A.heap[Bs]? = some (.cells cs t fr) → B.heap[Bs]? = some (.cells cs t fr)
theorem kp_t {n₀ Bs : Nat} {A B C : World} (h : Kp n₀ Bs A B) (k : Kp n₀ Bs B C) : Kp n₀ Bs A C := ⟨h.1.trans k.1, fun cs t fr e => k.2 _ _ _ (h.2 _ _ _ e)⟩
theorem kp_b {n₀ Bs : Nat} {w : World} (hn : n₀ ≤ w.heap.size) (W : World) (l : Nat) (o o' : Obj) (hl : w.heap.size ≤ l) (h : W.heap[l]? = some o) (h1 : o.isCells = false) (h2 : o.isWalk = false) : Kp n₀ Bs W (W.putObj l o') :=
  ⟨belowK_b hn W l o o' hl h h1 h2, fun cs t fr e => by
    have hne : Bs ≠ l := by rintro rfl; rw [h] at e; injection e with e; subst e; cases h1
    exact (World.putObj_heap_other hne).trans e⟩
theorem cell_of_box {W : World} {B : Nat} {v : Value} {t : TypeId} {fr : Nat × Nat} (h : W.heap[B]? = some (.cells #[v] t fr)) : W.cell? ⟨B, 0, none⟩ = some v := (cell_of_row W B 0 #[v] t fr h).trans rfl

def enc2 (x : Nat × Int) : Array Value := #[.int .i64 (x.1 : Int), .int .u8 x.2]
/-- The first k bytes from behind, each with its place. -/
def back (zs : List Int) : Nat → List (Nat × Int)
  | 0 => []
  | k + 1 => (k, at0 zs k) :: back zs k
theorem back_length (zs : List Int) (k : Nat) : (back zs k).length = k := by induction k <;> simp_all [back]

set_option maxRecDepth 100000 in
set_option maxHeartbeats 2000000 in
theorem back1_in (F : Fence) (n : Nat) (h37 : F.fn 37) (hro : F.round = none) (hn : 1 ≤ n) (l Bs n₀ b off cap : Nat) (zs : List Int) (hreach : zs.length ≤ 9223372036854775807) (hb : b < n₀) (J Jx : List (Nat × Int) → World → Prop)
    (hY : ∀ pre x W, J pre W → pre.length < zs.length → YieldAt F (n - 1) Try.prog l (enc2 x) W fun e W' =>
      (e = .returned (.bool true) ∧ J (pre ++ [x]) W' ∧ Kp n₀ Bs W W') ∨ (e = .returned (.bool false) ∧ Jx (pre ++ [x]) W'))
    (W : World) (hBs : W.heap[Bs]? = some (.cells #[.slice (some ⟨b, off, none⟩) zs.length cap] 23 (0, 0))) (hc : ∀ j, j < zs.length → W.cell? ⟨b, off + j, none⟩ = some (.int .u8 (at0 zs j))) (h0 : J [] W) :
    CallsIn F n Try.prog 37 #[.func (.yield l) #[] #[], .pointer (some ⟨Bs, 0, none⟩)] W fun e W' => (∃ v, e = .returned v) ∧
      ((∃ ys, ys = back zs zs.length ∧ J ys W') ∨ (∃ pre, pre <+: back zs zs.length ∧ Jx pre W')) := by
  refine callsIn_of_wp Try.func37 rfl h37 ?_ hro
  simp only [Try.ntmps37, List.size_toArray, List.length_cons, List.length_nil, Nat.reduceAdd, Nat.reduceSub, Array.replicate_succ, Array.replicate_zero, List.push_toArray, List.append_toArray, List.nil_append, List.cons_append]
  have hB0 := cell_of_box hBs
  gi_wp2
  gi_loopw [3] (fun i wr => ∃ (k : Nat) (pre : List (Nat × Int)) (m : Int), k ≤ zs.length ∧ i = .int .i64 m ∧ Hid (m = (k : Int) - 1) ∧ J pre wr ∧ Below n₀ W wr ∧ wr.heap[Bs]? = some (.cells #[.slice (some ⟨b, off, none⟩) zs.length cap] 23 (0, 0)) ∧ Hid (pre ++ back zs k = back zs zs.length))
    (fun i _ => (intOf i + 1).toNat)
  case atStart => exact ⟨zs.length, [], _, Nat.le_refl _, rfl, Lib.hid rfl, h0, Below.refl _ _, hBs, Lib.hid rfl⟩
  case round =>
    obtain ⟨k, pre, m, hk, rfl, hm, hJs, hnx, hbx, hpre⟩ := hrel
    have hBx := cell_of_box hbx
    have HBX := Lib.hid hbx; clear hbx hB0
    cases k with
    | zero =>
      obtain rfl : m = -1 := by rw [hm.out]; rfl
      gi_wp2
      go_end0
      exact ⟨⟨_, rfl⟩, .inl ⟨_, by rw [← hpre.out, back, List.append_nil], hJs⟩⟩
    | succ k =>
      obtain rfl : m = (k : Int) := by rw [hm.out]; omega
      have hlt : k < zs.length := by omega
      have hce : wr.cell? ⟨b, off + k, none⟩ = some (.int .u8 (at0 zs k)) := (hnx.cell (p := ⟨b, off + k, none⟩) hb).trans (hc k hlt)
      have hplen : pre.length < zs.length := by
        have h1 := back_length zs zs.length
        rw [← hpre.out, List.length_append, back_length] at h1
        omega
      obtain ⟨fn, tmps, assign, body, hy, hR⟩ := hY pre (k, at0 zs k) wr hJs hplen
      dsimp only [enc2] at hy
      gi_wp2
      refine hR.mono ?_
      rintro e3 W3 (⟨rfl, hJ3, hk3⟩ | ⟨rfl, hJx3⟩)
      · gi_wp2
        go_roundw
        case rel => exact ⟨k, pre ++ [(k, at0 zs k)], _, by omega, rfl, Lib.hid rfl, hJ3, hnx.trans hk3.1, hk3.2 _ _ _ HBX.out, Lib.hid (by rw [← hpre.out, List.append_assoc]; rfl)⟩
        case measure => simp [intOf]
      · gi_wp2
        refine bodyPost_ret (results_none rfl _ _ _) rfl ?_
        exact ⟨⟨_, rfl⟩, .inr ⟨_, ⟨back zs k, by rw [← hpre.out, List.append_assoc]; rfl⟩, hJx3⟩⟩

set_option maxRecDepth 100000 in
set_option maxHeartbeats 1000000 in
theorem back1_nil (F : Fence) (n : Nat) (h37 : F.fn 37) (hro : F.round = none) (l Bs : Nat) (a : Option Addr) (c : Nat) (J : List (Nat × Int) → World → Prop) (W : World) (hBs : W.cell? ⟨Bs, 0, none⟩ = some (.slice a 0 c)) (h0 : J [] W) :
    CallsIn F n Try.prog 37 #[.func (.yield l) #[] #[], .pointer (some ⟨Bs, 0, none⟩)] W fun e W' => (∃ v, e = .returned v) ∧ J [] W' := by
  refine callsIn_of_wp Try.func37 rfl h37 ?_ hro
  simp only [Try.ntmps37, List.size_toArray, List.length_cons, List.length_nil, Nat.reduceAdd, Nat.reduceSub, Array.replicate_succ, Array.replicate_zero, List.push_toArray, List.append_toArray, List.nil_append, List.cons_append]
  gi_wp2
  gi_loopw [3] (fun i wr => i = .int .i64 (-1) ∧ J [] wr ∧ wr = W) (fun _ _ => 0)
  case atStart => exact ⟨rfl, h0, rfl⟩
  case round =>
    obtain ⟨rfl, hJs, rfl⟩ := hrel
    gi_wp2
    go_end0
    exact ⟨⟨_, rfl⟩, hJs⟩

set_option maxHeartbeats 1000000 in
theorem backward_in (F : Fence) (n : Nat) (h34 : F.fn 34) (hro : F.round = none) (a : Option Addr) (len cap : Nat) (w : World) :
    CallsIn F n Try.prog 34 #[.slice a len cap] w fun e w' => e = .returned (.func (.func 37) #[] #[.pointer (some ⟨w.heap.size, 0, none⟩)]) ∧ w' = w.alloc (.cells #[.slice a len cap] 23) := by
  refine callsIn_of_wp Try.func34 rfl h34 ?_ hro
  simp only [Try.ntmps34, List.size_toArray, List.length_cons, List.length_nil, Nat.reduceAdd, Nat.reduceSub, Array.replicate_succ, Array.replicate_zero, List.push_toArray, List.append_toArray, List.nil_append, List.cons_append]
  gi_wp2
  go_ret
  exact ⟨rfl, rfl⟩

theorem back_stops (F : Fence) (n : Nat) (h37 : F.fn 37) (hro : F.round = none) (hn : 1 ≤ n) (Bs n₀ : Nat) (sv : Value) (zs : List Int) (hreach : zs.length ≤ 9223372036854775807) (w : World) (hn₀ : n₀ ≤ w.heap.size)
    (hc : w.heap[Bs]? = some (.cells #[sv] 23 (0, 0))) (hI : Bytes n₀ w sv zs) :
    SeqStopsK F n Try.prog 37 #[.pointer (some ⟨Bs, 0, none⟩)] enc2 (Kp n₀ Bs) (fun ys => ys = back zs zs.length) (fun pre => pre <+: back zs zs.length) zs.length w := fun l J Jx W hW _ _ hY h0 => by
  have hc' := (hW.block Bs (Array.getElem?_eq_some_iff.1 hc).1).trans hc
  rcases hI.below (hW.mono hn₀) with ⟨a, c, rfl, rfl⟩ | ⟨b, off, cap, rfl, hpos, hb, hcs⟩
  · exact (back1_nil F n h37 hro l Bs a c J W (cell_of_box hc') h0).mono fun e W' ⟨he, hj⟩ => ⟨he, .inl ⟨_, rfl, hj⟩⟩
  · refine (back1_in F n h37 hro hn l Bs n₀ b off cap zs hreach hb J Jx hY W hc' hcs h0).mono ?_
    rintro e W' ⟨he, ⟨ys, rfl, hj⟩ | ⟨pre, hk, hj⟩⟩
    · exact ⟨he, .inl ⟨_, rfl, hj⟩⟩
    · exact ⟨he, .inr ⟨_, hk, hj⟩⟩
end Go.Proofs.Ytglcbaellbhogaa.Back
