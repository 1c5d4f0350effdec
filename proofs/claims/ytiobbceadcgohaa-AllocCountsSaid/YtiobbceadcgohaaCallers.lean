/- Longest, Free, Find and Runs of a row, by its runs. -/
import Derived.Test.YtiobbceadcgohaaRuns
namespace Go.Proofs.Ytiobbceadcgohaa.Callers
open Go.RowKit Go.Shelf Go.Proofs.Ytiobbceadcgohaa.Pure Go.Proofs.Ytiobbceadcgohaa.Runs
attribute [local go_sem] Oper.semAt_some
set_option linter.unusedVariables false

theorem cell_of_box_l {W : World} {B : Nat} {v : Value} {t : TypeId} (h : W.heap[B]? = some (.cells #[v] t (0, 0))) : W.cell? ⟨B, 0, none⟩ = some v ∧ W.frozen? ⟨B, 0, none⟩ = false := by
  constructor <;> simp [World.cell?, World.frozen?, h]
theorem cell_new_l (W : World) (v : Value) (t : TypeId) : (W.alloc (.cells #[v] t)).cell? ⟨W.heap.size, 0, none⟩ = some v ∧ (W.alloc (.cells #[v] t)).frozen? ⟨W.heap.size, 0, none⟩ = false :=
  cell_of_box_l (World.alloc_heap_new W _)
theorem cell_alloc_l {W : World} {a : Addr} {v : Value} (o : Obj) (h : W.cell? a = some v) : (W.alloc o).cell? a = some v := cell_kept h (World.grownBy_alloc W o none) (fun r e => by cases e)
theorem frozen_alloc_l {W : World} {a : Addr} {v : Value} (o : Obj) (h : W.cell? a = some v) (hf : W.frozen? a = false) : (W.alloc o).frozen? a = false := (frozen_kept h (World.grownBy_alloc W o none) (fun r e => by cases e)).trans hf

def maxR (xs : List (Nat × Nat)) : Nat := xs.foldl (fun m x => max m x.2) 0
theorem maxR_snoc (xs : List (Nat × Nat)) (x : Nat × Nat) : maxR (xs ++ [x]) = max (maxR xs) x.2 := by simp [maxR, List.foldl_append]
def wsum (xs : List (Nat × Nat)) : Int := xs.foldl (fun m x => wrap64 (m + x.2)) 0
theorem wsum_snoc (xs : List (Nat × Nat)) (x : Nat × Nat) : wsum (xs ++ [x]) = wrap64 (wsum xs + x.2) := by simp [wsum, List.foldl_append]

theorem kp_set {n₀ Bs : Nat} {W : World} {b o : Nat} (hb : n₀ ≤ b) (hne : Bs ≠ b) (v : Value) : Kp n₀ Bs W (W.setCell ⟨b, o, none⟩ v) :=
  ⟨(Below.refl n₀ W).setCell (p := ⟨b, o, none⟩) hb _, fun cs t fr e => (Below.heap_setCell W ⟨b, o, none⟩ v Bs hne).trans e⟩
theorem kp_refl {n₀ Bs : Nat} {W : World} : Kp n₀ Bs W W := ⟨Below.refl _ _, fun _ _ _ e => e⟩

set_option maxRecDepth 100000 in
set_option maxHeartbeats 2000000 in
theorem longest_in (F : Fence) (n : Nat) (hf : F.fn 13) (h21 : F.fn 21) (h24 : F.fn 24) (hro : F.round = none) (hn : 3 ≤ n) (a : Option Addr) (len cap : Nat) (zs : List Bool) (hreach : zs.length ≤ 140737488351232) (w : World) (hI : Bools w.heap.size w (.slice a len cap) zs) :
    CallsIn F n Try.prog 13 #[.slice a len cap] w fun e W' => e = .returned (.int .i64 ((fun q => (maxR q : Int)) (runsL zs))) ∧ Below w.heap.size w W' := by
  have h1 : 1 ≤ n := by omega
  refine callsIn_of_wp_marks Try.func13 rfl hf ?_ hro
  simp only [Try.ntmps13, List.size_toArray, List.length_cons, List.length_nil, Nat.reduceAdd, Nat.reduceSub, Array.replicate_succ, Array.replicate_zero, List.push_toArray, List.append_toArray, List.nil_append, List.cons_append]
  gi_wp2_with (gi_at_call 21; refine (runs_in F (n - 1) h21 hro _ _ _ _).mono ?_; rintro e w' ⟨rfl, rfl⟩)
  have c0 := cell_new_l w (.int .i64 0) 3
  have hB0 : Below w.heap.size w ((w.alloc (.cells #[.int .i64 0] 3)).alloc (.cells #[.slice a len cap] 22)) := ((Below.refl _ w).alloc (Nat.le_refl _) _).alloc (by simp) _
  have hbox : ((w.alloc (.cells #[.int .i64 0] 3)).alloc (.cells #[.slice a len cap] 22)).heap[w.heap.size + 1]? = some (.cells #[.slice a len cap] 22 (0, 0)) := by
    have := World.alloc_heap_new (w.alloc (.cells #[.int .i64 0] 3)) (.cells #[.slice a len cap] 22); rwa [World.size_alloc] at this
  refine wpIn_rangeFunc_ownF hro h1 (gf := 24) (lb := #[.pointer (some ⟨w.heap.size + 1, 0, none⟩)]) rfl h24 (enters_of Try.func24 (by kernel_rfl) rfl)
    (runs_stops F (n - 1) h24 hro (by omega) (w.heap.size + 1) w.heap.size (.slice a len cap) zs hreach _ (by simp; omega) hbox (hI.below hB0)) kp_t (kp_b (by simp; omega)) (Below.refl _ _) (fun _ => rfl)
    (fun pre W => (W.cell? ⟨w.heap.size, 0, none⟩ = some (.int .i64 ((fun q => (maxR q : Int)) pre)) ∧ W.frozen? ⟨w.heap.size, 0, none⟩ = false) ∧ Below w.heap.size w W)
    (fun _ _ _ => False)
    (OwnFrom.and (Own.from (fun s A B row hs hg hr => ⟨cell_kept hs.1 hg hr, (frozen_kept hs.1 hg hr).trans hs.2⟩) _) (ownFrom_below (Nat.le_refl _) (by simp; omega)))
    (fun _ _ _ _ _ hs _ _ => hs)
    ⟨⟨cell_alloc_l _ c0.1, frozen_alloc_l _ c0.1 c0.2⟩, hB0⟩
    (fun x => { tmps := #[.slice a len cap, undef, .int .i64 0, .pointer (some ⟨w.heap.size, 0, none⟩), undef, .int .i64 (x.2 : Int), .slice a len cap, .func (.func 24) #[] #[.pointer (some ⟨w.heap.size + 1, 0, none⟩)], .int .i64 (x.1 : Int), .int .i64 (x.2 : Int), undef, undef, undef, undef], defers := [] }) ?assign ?body ?done ?stop
  case assign =>
    intro l x W K hK
    simp only [enc2]
    gi_wp2
    exact hK
  case body =>
    rintro l pre x W ⟨⟨hc, hf⟩, hB⟩ _
    gi_wp2
    · have e : maxR (pre ++ [x]) = x.2 := by rw [maxR_snoc]; omega
      exact ⟨KeepsOthers.setCell _ _ _, kp_set (Nat.le_refl _) (by omega) _, ⟨(World.cell?_setCell_same' _ _ _ (by rw [hc]; rfl)).trans (by rw [e]), by rw [World.frozen?_setCell]; exact hf⟩, hB.setCell (p := ⟨w.heap.size, 0, none⟩) (Nat.le_refl _) _⟩
    · have e : maxR (pre ++ [x]) = maxR pre := by rw [maxR_snoc]; omega
      exact ⟨KeepsOthers.setCell _ _ _, kp_set (Nat.le_refl _) (by omega) _, ⟨(World.cell?_setCell_same' _ _ _ (by rw [hc]; rfl)).trans (by rw [e]), by rw [World.frozen?_setCell]; exact hf⟩, hB.setCell (p := ⟨w.heap.size, 0, none⟩) (Nat.le_refl _) _⟩
  case done =>
    rintro D ys W hD rfl ⟨⟨hc, _⟩, hB⟩ hK
    gi_wp2
    refine ⟨by simp, .inl ⟨_, _, rfl, run_takeDeferred hK, ?_⟩⟩
    exact ⟨_, results_tmp rfl _ _ _, rfl, hB.trans (belowK_b (w := w) (Nat.le_refl _) W D _ _ (by simp at hD; omega) hK rfl rfl)⟩
  case stop =>
    rintro D c pre W _ _ h _
    exact h.elim

set_option maxRecDepth 100000 in
set_option maxHeartbeats 2000000 in
theorem free_in (F : Fence) (n : Nat) (hf : F.fn 14) (h21 : F.fn 21) (h24 : F.fn 24) (hro : F.round = none) (hn : 3 ≤ n) (a : Option Addr) (len cap : Nat) (zs : List Bool) (hreach : zs.length ≤ 140737488351232) (w : World) (hI : Bools w.heap.size w (.slice a len cap) zs) :
    CallsIn F n Try.prog 14 #[.slice a len cap] w fun e W' => e = .returned (.int .i64 (wsum (runsL zs))) ∧ Below w.heap.size w W' := by
  have h1 : 1 ≤ n := by omega
  refine callsIn_of_wp_marks Try.func14 rfl hf ?_ hro
  simp only [Try.ntmps14, List.size_toArray, List.length_cons, List.length_nil, Nat.reduceAdd, Nat.reduceSub, Array.replicate_succ, Array.replicate_zero, List.push_toArray, List.append_toArray, List.nil_append, List.cons_append]
  gi_wp2_with (gi_at_call 21; refine (runs_in F (n - 1) h21 hro _ _ _ _).mono ?_; rintro e w' ⟨rfl, rfl⟩)
  have c0 := cell_new_l w (.int .i64 0) 3
  have hB0 : Below w.heap.size w ((w.alloc (.cells #[.int .i64 0] 3)).alloc (.cells #[.slice a len cap] 22)) := ((Below.refl _ w).alloc (Nat.le_refl _) _).alloc (by simp) _
  have hbox : ((w.alloc (.cells #[.int .i64 0] 3)).alloc (.cells #[.slice a len cap] 22)).heap[w.heap.size + 1]? = some (.cells #[.slice a len cap] 22 (0, 0)) := by
    have := World.alloc_heap_new (w.alloc (.cells #[.int .i64 0] 3)) (.cells #[.slice a len cap] 22); rwa [World.size_alloc] at this
  refine wpIn_rangeFunc_ownF hro h1 (gf := 24) (lb := #[.pointer (some ⟨w.heap.size + 1, 0, none⟩)]) rfl h24 (enters_of Try.func24 (by kernel_rfl) rfl)
    (runs_stops F (n - 1) h24 hro (by omega) (w.heap.size + 1) w.heap.size (.slice a len cap) zs hreach _ (by simp; omega) hbox (hI.below hB0)) kp_t (kp_b (by simp; omega)) (Below.refl _ _) (fun _ => rfl)
    (fun pre W => (W.cell? ⟨w.heap.size, 0, none⟩ = some (.int .i64 (wsum pre)) ∧ W.frozen? ⟨w.heap.size, 0, none⟩ = false) ∧ Below w.heap.size w W)
    (fun _ _ _ => False)
    (OwnFrom.and (Own.from (fun s A B row hs hg hr => ⟨cell_kept hs.1 hg hr, (frozen_kept hs.1 hg hr).trans hs.2⟩) _) (ownFrom_below (Nat.le_refl _) (by simp; omega)))
    (fun _ _ _ _ _ hs _ _ => hs)
    ⟨⟨cell_alloc_l _ c0.1, frozen_alloc_l _ c0.1 c0.2⟩, hB0⟩
    (fun x => { tmps := #[.slice a len cap, undef, .int .i64 0, .pointer (some ⟨w.heap.size, 0, none⟩), undef, .int .i64 (x.2 : Int), .slice a len cap, .func (.func 24) #[] #[.pointer (some ⟨w.heap.size + 1, 0, none⟩)], .int .i64 (x.1 : Int), .int .i64 (x.2 : Int), undef, undef, undef, undef], defers := [] }) ?assign ?body ?done ?stop
  case assign =>
    intro l x W K hK
    simp only [enc2]
    gi_wp2
    exact hK
  case body =>
    rintro l pre x W ⟨⟨hc, hf⟩, hB⟩ _
    gi_wp2
    have e := wsum_snoc pre x
    exact ⟨KeepsOthers.setCell _ _ _, kp_set (Nat.le_refl _) (by omega) _, ⟨(World.cell?_setCell_same' _ _ _ (by rw [hc]; rfl)).trans (by rw [e]), by rw [World.frozen?_setCell]; exact hf⟩, hB.setCell (p := ⟨w.heap.size, 0, none⟩) (Nat.le_refl _) _⟩
  case done =>
    rintro D ys W hD rfl ⟨⟨hc, _⟩, hB⟩ hK
    gi_wp2
    refine ⟨by simp, .inl ⟨_, _, rfl, run_takeDeferred hK, ?_⟩⟩
    exact ⟨_, results_tmp rfl _ _ _, rfl, hB.trans (belowK_b (w := w) (Nat.le_refl _) W D _ _ (by simp at hD; omega) hK rfl rfl)⟩
  case stop =>
    rintro D c pre W _ _ h _
    exact h.elim

def Small (m : Int) (xs : List (Nat × Nat)) : Prop := ∀ y, y ∈ xs → (y.2 : Int) < m
theorem Small.snoc {m : Int} {xs : List (Nat × Nat)} {x : Nat × Nat} (h : Small m xs) (hx : (x.2 : Int) < m) : Small m (xs ++ [x]) := fun y hy => (List.mem_append.1 hy).elim (h y) (fun e => by simp at e; subst e; exact hx)
theorem far1 {W : World} {b c : Nat} (h : c ≠ b) (v : Value) : (W.setCell ⟨c, 0, none⟩ v).cell? ⟨b, 0, none⟩ = W.cell? ⟨b, 0, none⟩ := World.cell?_setCell_other _ _ _ _ (fun e => h (by injection e))
/-- What Find answers. -/
def findR (xs : List (Nat × Nat)) (m : Int) : Int × Int := match xs.find? (fun x => decide (m ≤ (x.2 : Int))) with | some x => ((x.1 : Int), 0) | none => (0, 7)
theorem findR_none {xs : List (Nat × Nat)} {m : Int} (h : ∀ y, y ∈ xs → (y.2 : Int) < m) : findR xs m = (0, 7) := by
  unfold findR
  rw [List.find?_eq_none.2 (fun y hy => by have := h y hy; simp; omega)]
theorem findR_some {q ys : List (Nat × Nat)} {x : Nat × Nat} {m : Int} (h : ∀ y, y ∈ q → (y.2 : Int) < m) (hx : m ≤ (x.2 : Int)) : findR (q ++ [x] ++ ys) m = ((x.1 : Int), 0) := by
  unfold findR
  rw [List.append_assoc, List.find?_append, List.find?_eq_none.2 (fun y hy => by have := h y hy; simp; omega)]
  simp [hx]

set_option maxHeartbeats 1000000 in
theorem find_arg (F : Fence) (n : Nat) (hf : F.fn 10) (hro : F.round = none) (a : Option Addr) (len cap : Nat) (m : Int) (w : World) (hm : m < 1) :
    CallsIn F n Try.prog 10 #[.slice a len cap, .int .i64 m] w fun e W' => e = .returned (.tuple #[.int .i64 0, .int .i64 2]) ∧ Below w.heap.size w W' := by
  refine callsIn_of_wp_marks Try.func10 rfl hf ?_ hro
  simp only [Try.ntmps10, List.size_toArray, List.length_cons, List.length_nil, Nat.reduceAdd, Nat.reduceSub, Array.replicate_succ, Array.replicate_zero, List.push_toArray, List.append_toArray, List.nil_append, List.cons_append]
  gi_wp2
  refine ⟨.tuple #[.int .i64 0, .int .i64 2], ?_, rfl, (((Below.refl _ w).alloc (Nat.le_refl _) _).alloc (by simp) _).alloc (by simp; omega) _⟩
  simp [results, Try.f10, go_sem]
set_option maxRecDepth 100000 in
set_option maxHeartbeats 2000000 in
theorem find_in (F : Fence) (n : Nat) (hf : F.fn 10) (h21 : F.fn 21) (h24 : F.fn 24) (hro : F.round = none) (hn : 3 ≤ n) (a : Option Addr) (len cap : Nat) (m : Int) (zs : List Bool) (hreach : zs.length ≤ 140737488351232) (w : World) (hI : Bools w.heap.size w (.slice a len cap) zs) (hm : 1 ≤ m) :
    CallsIn F n Try.prog 10 #[.slice a len cap, .int .i64 m] w fun e W' => e = .returned (.tuple #[.int .i64 (findR (runsL zs) m).1, .int .i64 (findR (runsL zs) m).2]) ∧ Below w.heap.size w W' := by
  have h1 : 1 ≤ n := by omega
  refine callsIn_of_wp_marks Try.func10 rfl hf ?_ hro
  simp only [Try.ntmps10, List.size_toArray, List.length_cons, List.length_nil, Nat.reduceAdd, Nat.reduceSub, Array.replicate_succ, Array.replicate_zero, List.push_toArray, List.append_toArray, List.nil_append, List.cons_append]
  have hm1 : decide (m < 1) = false := decide_eq_false (by omega)
  gi_wp2_with (gi_at_call 21; refine (runs_in F (n - 1) h21 hro _ _ _ _).mono ?_; rintro e w' ⟨rfl, rfl⟩)
  have c0 := cell_new_l w (.int .i64 m) 3
  have c1 := cell_new_l (w.alloc (.cells #[.int .i64 m] 3)) (.int .i64 0) 3
  have c2 := cell_new_l ((w.alloc (.cells #[.int .i64 m] 3)).alloc (.cells #[.int .i64 0] 3)) (.int .i64 0) 24
  simp only [World.size_alloc] at c1 c2
  have hB0 : Below w.heap.size w ((((w.alloc (.cells #[.int .i64 m] 3)).alloc (.cells #[.int .i64 0] 3)).alloc (.cells #[.int .i64 0] 24)).alloc (.cells #[.slice a len cap] 22)) := ((((Below.refl _ w).alloc (Nat.le_refl _) _).alloc (by simp) _).alloc (by simp; omega) _).alloc (by simp; omega) _
  have hbox : ((((w.alloc (.cells #[.int .i64 m] 3)).alloc (.cells #[.int .i64 0] 3)).alloc (.cells #[.int .i64 0] 24)).alloc (.cells #[.slice a len cap] 22)).heap[w.heap.size + 1 + 1 + 1]? = some (.cells #[.slice a len cap] 22 (0, 0)) := by
    have := World.alloc_heap_new (((w.alloc (.cells #[.int .i64 m] 3)).alloc (.cells #[.int .i64 0] 3)).alloc (.cells #[.int .i64 0] 24)) (.cells #[.slice a len cap] 22); simpa only [World.size_alloc] using this
  refine wpIn_rangeFunc_ownF hro h1 (gf := 24) (lb := #[.pointer (some ⟨w.heap.size + 1 + 1 + 1, 0, none⟩)]) rfl h24 (enters_of Try.func24 (by kernel_rfl) rfl)
    (runs_stops F (n - 1) h24 hro (by omega) (w.heap.size + 1 + 1 + 1) w.heap.size (.slice a len cap) zs hreach _ (by simp; omega) hbox (hI.below hB0)) kp_t (kp_b (by simp; omega)) (Below.refl _ _) (fun _ => rfl)
    (fun pre W => (Small m pre ∧ W.cell? ⟨w.heap.size, 0, none⟩ = some (.int .i64 m) ∧ (W.cell? ⟨w.heap.size + 1, 0, none⟩ = some (.int .i64 0) ∧ W.frozen? ⟨w.heap.size + 1, 0, none⟩ = false) ∧ (W.cell? ⟨w.heap.size + 1 + 1, 0, none⟩ = some (.int .i64 0) ∧ W.frozen? ⟨w.heap.size + 1 + 1, 0, none⟩ = false)) ∧ Below w.heap.size w W)
    (fun c pre W => ((c = .ret ∧ ∃ q x, pre = q ++ [x] ∧ Small m q ∧ m ≤ (x.2 : Int) ∧ W.cell? ⟨w.heap.size + 1, 0, none⟩ = some (.int .i64 (x.1 : Int)) ∧ W.cell? ⟨w.heap.size + 1 + 1, 0, none⟩ = some (.int .i64 0))) ∧ Below w.heap.size w W)
    (OwnFrom.and (Own.from (fun s A B row hs hg hr => ⟨hs.1, cell_kept hs.2.1 hg hr, ⟨cell_kept hs.2.2.1.1 hg hr, (frozen_kept hs.2.2.1.1 hg hr).trans hs.2.2.1.2⟩, ⟨cell_kept hs.2.2.2.1 hg hr, (frozen_kept hs.2.2.2.1 hg hr).trans hs.2.2.2.2⟩⟩) _) (ownFrom_below (Nat.le_refl _) (by simp; omega)))
    (fun c => OwnFrom.and (Own.from (fun s A B row hs hg hr => by obtain ⟨e, q, x, e1, e2, e3, e4, e5⟩ := hs; exact ⟨e, q, x, e1, e2, e3, cell_kept e4 hg hr, cell_kept e5 hg hr⟩) _) (ownFrom_below (Nat.le_refl _) (by simp; omega)))
    ⟨⟨show Small m [] from fun y hy => (by cases hy), cell_alloc_l _ (cell_alloc_l _ (cell_alloc_l _ c0.1)), ⟨cell_alloc_l _ (cell_alloc_l _ c1.1), frozen_alloc_l _ (cell_alloc_l _ c1.1) (frozen_alloc_l _ c1.1 c1.2)⟩, ⟨cell_alloc_l _ c2.1, frozen_alloc_l _ c2.1 c2.2⟩⟩, hB0⟩
    (fun x => { tmps := #[.slice a len cap, .int .i64 m, undef, .pointer (some ⟨w.heap.size, 0, none⟩), .pointer (some ⟨w.heap.size + 1, 0, none⟩), .pointer (some ⟨w.heap.size + 1 + 1, 0, none⟩), .int .i64 (x.1 : Int), .int .i64 (x.2 : Int), .int .i64 m, .bool false, .slice a len cap, .func (.func 24) #[] #[.pointer (some ⟨w.heap.size + 1 + 1 + 1, 0, none⟩)], .int .i64 (x.1 : Int), .int .i64 (x.2 : Int), undef, undef, undef, undef], defers := [] }) ?assign ?body ?done ?stop
  case assign =>
    intro l x W K hK
    simp only [enc2]
    gi_wp2
    exact hK
  case body =>
    rintro l pre x W ⟨⟨hp, hcm, ⟨hc1, hf1⟩, ⟨hc2, hf2⟩⟩, hB⟩ _
    have hne1 : w.heap.size + 1 ≠ w.heap.size := by omega
    have hne2 : w.heap.size + 1 + 1 ≠ w.heap.size + 1 := by omega
    have HP := Lib.hid hp; clear hp
    by_cases hx : m ≤ (x.2 : Int)
    · gi_wp2
      exact ⟨(KeepsOthers.setCell _ _ _).trans (KeepsOthers.setCell _ _ _), ⟨rfl, pre, x, rfl, HP.out, hx, (far1 hne2 _).trans (World.cell?_setCell_same' _ _ _ (by rw [hc1]; rfl)), World.cell?_setCell_same' _ _ _ (by rw [far1 hne2.symm, hc2]; rfl)⟩,
        (hB.setCell (p := ⟨w.heap.size + 1, 0, none⟩) (by simp) _).setCell (p := ⟨w.heap.size + 1 + 1, 0, none⟩) (by simp; omega) _⟩
    · gi_wp2
      exact ⟨KeepsOthers.refl _, kp_refl, ⟨HP.out.snoc (by omega), hcm, ⟨hc1, hf1⟩, ⟨hc2, hf2⟩⟩, hB⟩
  case done =>
    rintro D ys W hD rfl ⟨⟨hne, _, ⟨hc1, hf1⟩, ⟨hc2, hf2⟩⟩, hB⟩ hK
    have HN := Lib.hid hne; clear hne
    have hne2 : w.heap.size + 1 + 1 ≠ w.heap.size + 1 := by omega
    gi_wp2
    have hK' := ((KeepsOthers.setCell W ⟨w.heap.size + 1, 0, none⟩ (.int .i64 0)).trans (KeepsOthers.setCell _ ⟨w.heap.size + 1 + 1, 0, none⟩ (.int .i64 7))).same D _ hK rfl
    refine ⟨by simp, .inl ⟨_, _, rfl, run_takeDeferred hK', ?_⟩⟩
    have hc5 := cell_kept ((far1 hne2 _).trans (World.cell?_setCell_same' W ⟨w.heap.size + 1, 0, none⟩ (.int .i64 0) (by rw [hc1]; rfl))) (grownBy_putObj' ((W.setCell ⟨w.heap.size + 1, 0, none⟩ (.int .i64 0)).setCell ⟨w.heap.size + 1 + 1, 0, none⟩ (.int .i64 7)) D (.deferred none)) (fun r e => by cases e; exact ⟨_, hK', rfl⟩)
    have hc6 := cell_kept (World.cell?_setCell_same' (W.setCell ⟨w.heap.size + 1, 0, none⟩ (.int .i64 0)) ⟨w.heap.size + 1 + 1, 0, none⟩ (.int .i64 7) (by rw [far1 hne2.symm, hc2]; rfl)) (grownBy_putObj' ((W.setCell ⟨w.heap.size + 1, 0, none⟩ (.int .i64 0)).setCell ⟨w.heap.size + 1 + 1, 0, none⟩ (.int .i64 7)) D (.deferred none)) (fun r e => by cases e; exact ⟨_, hK', rfl⟩)
    refine ⟨.tuple #[.int .i64 0, .int .i64 7], ?_, by rw [findR_none HN.out], ((hB.setCell (p := ⟨w.heap.size + 1, 0, none⟩) (by simp) _).setCell (p := ⟨w.heap.size + 1 + 1, 0, none⟩) (by simp; omega) _).trans (belowK_b (w := w) (Nat.le_refl _) _ D _ _ (by simp at hD; omega) hK' rfl rfl)⟩
    simp [results, Try.f10, go_sem, hc5, hc6]
  case stop =>
    rintro D c pre W hD hpre ⟨⟨rfl, q, x, rfl, e2, e3, hc1, hc2⟩, hB⟩ hK
    have HN := Lib.hid e2; clear e2
    gi_wp2
    refine ⟨by simp, .inl ⟨_, _, rfl, run_takeDeferred hK, ?_⟩⟩
    have hc5 := cell_kept hc1 (grownBy_putObj' _ D (.deferred none)) (fun r e => by cases e; exact ⟨_, hK, rfl⟩)
    have hc6 := cell_kept hc2 (grownBy_putObj' _ D (.deferred none)) (fun r e => by cases e; exact ⟨_, hK, rfl⟩)
    obtain ⟨ys, hys⟩ := hpre
    refine ⟨.tuple #[.int .i64 (x.1 : Int), .int .i64 0], ?_, by rw [← hys, findR_some HN.out e3], hB.trans (belowK_b (w := w) (Nat.le_refl _) W D _ _ (by simp at hD; omega) hK rfl rfl)⟩
    simp [results, Try.f10, go_sem, hc5, hc6]

end Go.Proofs.Ytiobbceadcgohaa.Callers
