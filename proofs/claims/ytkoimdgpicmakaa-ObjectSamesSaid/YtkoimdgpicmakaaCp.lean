/- A module is copied as the document does it (budwoodref10.Copy): lists of its own, in whatever order they are laid. -/
import Derived.Test.YtkoimdgpicmakaaZSm
import Derived.RegionTactic
import Derived.BigRegion
import Derived.Test.YtkoimdgpicmakaaZPq
import Derived.Test.YtkoimdgpicmakaaZPs
namespace Go.Proofs.Ytkoimdgpicmakaa.Ob
open Go.Proofs.Ytkoimdgpicmakaa.Inv
open Go.RowKit Go.Proofs.Ytkoimdgpicmakaa.Sep Go.Proofs.YtkoimdgpicmakaaW.PrintWords Go.Proofs.YtkoimdgpicmakaaW.PrintLast Go.Proofs.Ytkoimdgpicmakaa.Wm Go.Proofs.Ytkoimdgpicmakaa.Ev Go.Proofs.Ytkoimdgpicmakaa.Ty Go.Proofs.Ytkoimdgpicmakaa.PB
set_option linter.unusedVariables false
set_option linter.unusedSimpArgs false

/-- A region that draws its order, by what holds of each set of operations that may have run. -/
theorem any_inv {P : Program} {md : Region.Mode} {ops : Array Oper} {Q : Exit → Act → World → Prop} {S : World → Prop} {σ : Type} (lof : σ → Array Bool) (rank : σ → Nat) (Inv : σ → Act → World → Prop) (n0 : Nat)
    (hS : ∀ s a w, Inv s a w → S w)
    (hrdy : ∀ s a w, Inv s a w → rank s ≠ 0 → Region.ready md ops (lof s) ≠ [])
    (hstep : ∀ s a w, Inv s a w → rank s ≠ 0 → ∀ i ∈ Region.ready md ops (lof s), wpOp P ops Q i (fun a' w' => ∃ s', lof s' = (lof s).setIfInBounds i true ∧ rank s = rank s' + 1 ∧ Inv s' a' w') a w)
    (hfin : ∀ s a w, Inv s a w → rank s = 0 → wpAnyLast P md ops Q S [] n0 (lof s) a w) :
    ∀ (k : Nat) s a w, rank s = k → Inv s a w → wpAnyLast P md ops Q S [] (k + n0) (lof s) a w
  | 0, s, a, w, hk, h => by rw [Nat.zero_add]; exact hfin s a w h hk
  | k + 1, s, a, w, hk, h => by
    rw [show k + 1 + n0 = (k + n0) + 1 by omega]
    refine ⟨fun hr => absurd hr (hrdy s a w h (by omega)), fun i hi => ?_⟩
    refine wpOp_mono (fun a' w' h' => ?_) (hstep s a w h (by omega) i hi)
    obtain ⟨s', h1, h2, h3⟩ := h'
    refine ⟨fun _ _ => hS s' a' w' h3, ?_⟩
    rw [← h1]
    exact any_inv lof rank Inv n0 hS hrdy hstep hfin k s' a' w' (by omega) h3
/-- Nothing. -/
def NilA : Asn where
  foot _ := False
  pred _ := True
  move _ _ := trivial
  lt _ _ hk := hk.elim
def gA (s : Fin 3) (x y : Asn) : Asn := if s = 0 then NilA else if s = 1 then x else y
/-- How far the five lists are: not begun, a literal, laid. -/
structure Cs where
  a : Fin 3
  b : Fin 3
  c : Fin 3
  d : Fin 3
  e : Fin 3
def Cs.ok (s : Cs) : Bool := (!(s.b == 2) || s.a == 2) && (!(s.c == 2) || s.b == 2) && (!(s.d == 2) || s.c == 2) && !(s.e == 2)
def Cs.l (s : Cs) : Array Bool := #[true, true, !(s.a == 0), true, true, s.a == 2, !(s.b == 0), true, true, s.b == 2, !(s.c == 0), true, true, s.c == 2, !(s.d == 0), true, true, s.d == 2, !(s.e == 0), true, true, false, false, false]
def Cs.rank (s : Cs) : Nat := (2 - s.a.val) + (2 - s.b.val) + (2 - s.c.val) + (2 - s.d.val) + (1 - s.e.val)
theorem place_nil {B : Nat} {w W : World} {L : List Asn} {F : Asn → List Asn} {x u v : Asn} (S : Aside0 (St B w W (x :: L))) (hs : Spot L (gA 0 u v) F) : Aside0 (St B w W (F x)) := by
  obtain ⟨pre, post, rfl, h2⟩ := hs.split
  rw [h2]
  have h3 := S.out.swap (L' := pre ++ x :: (gA 0 u v :: post)) (List.perm_middle.symm)
  exact ⟨h3.drop (List.Sublist.append (List.Sublist.refl _) (List.Sublist.cons_cons _ (List.sublist_cons_self _ _)))⟩

section
variable (m : Mo) (Aa1 : Option Addr) (ca1 : Nat) (Aa2 : Option Addr) (ca2 : Nat) (Aa3 : Option Addr) (ca3 : Nat) (Aa4 : Option Addr) (ca4 : Nat) (Aa5 : Option Addr) (ca5 : Nat) (g1 g2 : Nat) (w : World)
def cAct (s : Cs) (A5 : Option Addr) (c5 : Nat) (A8 : Option Addr) (c8 : Nat) (A9 : Option Addr) (c9 : Nat) (A12 : Option Addr) (c12 : Nat) (A13 : Option Addr) (c13 : Nat) (A16 : Option Addr) (c16 : Nat) (A17 : Option Addr) (c17 : Nat) (A20 : Option Addr) (c20 : Nat) (A21 : Option Addr) (c21 : Nat) : Act := { tmps := #[.agg #[.string m.nm, .slice Aa1 m.ex.length ca1, .slice Aa2 m.im.length ca2, .slice Aa3 m.co.length ca3, .slice Aa4 m.da.length ca4, .slice Aa5 m.re.length ca5], .pointer (some ⟨g1, 0, none⟩), .pointer (some ⟨g2, 0, none⟩), .pointer (some ⟨g1, 0, none⟩), .string m.nm, if s.a = 0 then undef else .slice A5 0 c5, .pointer (some ⟨g1, 1, none⟩), .slice Aa1 m.ex.length ca1, if s.a = 2 then .slice A8 m.ex.length c8 else undef, if s.b = 0 then undef else .slice A9 0 c9, .pointer (some ⟨g1, 2, none⟩), .slice Aa2 m.im.length ca2, if s.b = 2 then .slice A12 m.im.length c12 else undef, if s.c = 0 then undef else .slice A13 0 c13, .pointer (some ⟨g1, 3, none⟩), .slice Aa3 m.co.length ca3, if s.c = 2 then .slice A16 m.co.length c16 else undef, if s.d = 0 then undef else .slice A17 0 c17, .pointer (some ⟨g1, 4, none⟩), .slice Aa4 m.da.length ca4, if s.d = 2 then .slice A20 m.da.length c20 else undef, if s.e = 0 then undef else .slice A21 0 c21, .pointer (some ⟨g1, 5, none⟩), .slice Aa5 m.re.length ca5, undef, undef], defers := [] }
def cLst (s : Cs) (A5 : Option Addr) (c5 : Nat) (A8 : Option Addr) (c8 : Nat) (A9 : Option Addr) (c9 : Nat) (A12 : Option Addr) (c12 : Nat) (A13 : Option Addr) (c13 : Nat) (A16 : Option Addr) (c16 : Nat) (A17 : Option Addr) (c17 : Nat) (A20 : Option Addr) (c20 : Nat) (A21 : Option Addr) (c21 : Nat) : List Asn := [gA s.e (Ow k50 50 A21 c21 []) NilA, gA s.d (Ow (Kd.int .u32) 43 A17 c17 []) (Ow (Kd.int .u32) 43 A20 c20 m.da), gA s.c (Ow (Kd.int .u32) 43 A13 c13 []) (Ow (Kd.int .u32) 43 A16 c16 m.co), gA s.b (Ow Kd.string 9 A9 c9 []) (Ow Kd.string 9 A12 c12 m.im), gA s.a (Ow Kd.string 9 A5 c5 []) (Ow Kd.string 9 A8 c8 m.ex), Bk g2 #[.string ⟨#[]⟩, .slice none 0 0, .slice none 0 0, .slice none 0 0, .slice none 0 0, .slice none 0 0] 26, Bk g1 #[.string m.nm, .slice Aa1 m.ex.length ca1, .slice Aa2 m.im.length ca2, .slice Aa3 m.co.length ca3, .slice Aa4 m.da.length ca4, .slice Aa5 m.re.length ca5] 26]
def cInv (s : Cs) (x : Act) (W : World) : Prop := s.ok = true ∧ ∃ A5 c5 A8 c8 A9 c9 A12 c12 A13 c13 A16 c16 A17 c17 A20 c20 A21 c21, x = cAct m Aa1 ca1 Aa2 ca2 Aa3 ca3 Aa4 ca4 Aa5 ca5 g1 g2 s A5 c5 A8 c8 A9 c9 A12 c12 A13 c13 A16 c16 A17 c17 A20 c20 A21 c21 ∧ Aside0 (St w.heap.size w W (cLst m Aa1 ca1 Aa2 ca2 Aa3 ca3 Aa4 ca4 Aa5 ca5 g1 g2 s A5 c5 A8 c8 A9 c9 A12 c12 A13 c13 A16 c16 A17 c17 A20 c20 A21 c21))
end

/-- What may come up, checked in every state. -/
def cReady (ops : Array Oper) : Bool := (List.finRange 3).all fun a => (List.finRange 3).all fun b => (List.finRange 3).all fun c => (List.finRange 3).all fun d => (List.finRange 3).all fun e =>
  !(Cs.mk a b c d e).ok || (Cs.mk a b c d e).rank == 0 || (!(Region.ready .any ops (Cs.mk a b c d e).l).isEmpty && (Region.ready .any ops (Cs.mk a b c d e).l).all fun i => (i == 2 && a == 0) || (i == 6 && b == 0) || (i == 10 && c == 0) || (i == 14 && d == 0) || (i == 18 && e == 0) || (i == 5 && a == 1) || (i == 9 && b == 1 && a == 2) || (i == 13 && c == 1 && b == 2) || (i == 17 && d == 1 && c == 2))
theorem cReady_spec {ops : Array Oper} (h : cReady ops = true) (a b c d e : Fin 3) (hok : (Cs.mk a b c d e).ok = true) (hk : (Cs.mk a b c d e).rank ≠ 0) : Region.ready .any ops (Cs.mk a b c d e).l ≠ [] ∧ ∀ i ∈ Region.ready .any ops (Cs.mk a b c d e).l, (i = 2 ∧ a = 0) ∨ (i = 6 ∧ b = 0) ∨ (i = 10 ∧ c = 0) ∨ (i = 14 ∧ d = 0) ∨ (i = 18 ∧ e = 0) ∨ (i = 5 ∧ a = 1) ∨ (i = 9 ∧ b = 1 ∧ a = 2) ∨ (i = 13 ∧ c = 1 ∧ b = 2) ∨ (i = 17 ∧ d = 1 ∧ c = 2) := by
  have h1 := List.all_eq_true.1 (List.all_eq_true.1 (List.all_eq_true.1 (List.all_eq_true.1 (List.all_eq_true.1 h a (List.mem_finRange a)) b (List.mem_finRange b)) c (List.mem_finRange c)) d (List.mem_finRange d)) e (List.mem_finRange e)
  have hk' : ((Cs.mk a b c d e).rank == 0) = false := beq_eq_false_iff_ne.2 hk
  rw [hok, hk', Bool.not_true, Bool.false_or, Bool.false_or, Bool.and_eq_true] at h1
  refine ⟨fun he => ?_, fun i hi => ?_⟩
  · rw [he] at h1
    exact absurd h1.1 (by decide)
  · have h2 := List.all_eq_true.1 h1.2 i hi
    simpa only [Bool.or_eq_true, Bool.and_eq_true, beq_iff_eq, or_assoc, and_assoc] using h2
theorem infq9 : (Try.prog.info? 9).map (fun i => (i.zero, i.size, i.bytes)) = some (some (.string ⟨#[]⟩), 1, 16) := by kernel_rfl
theorem infq43 : (Try.prog.info? 43).map (fun i => (i.zero, i.size, i.bytes)) = some (some (.int .u32 0), 1, 4) := by kernel_rfl
set_option maxRecDepth 100000 in
set_option maxHeartbeats 8000000 in
theorem cp_inv {ops : Array Oper} {Q : Exit → Act → World → Prop} {S : World → Prop} (m : Mo) (Aa1 : Option Addr) (ca1 : Nat) (Aa2 : Option Addr) (ca2 : Nat) (Aa3 : Option Addr) (ca3 : Nat) (Aa4 : Option Addr) (ca4 : Nat) (Aa5 : Option Addr) (ca5 : Nat) (g1 g2 : Nat) (w : World) (hM : Md w m.nm Aa1 ca1 m.ex Aa2 ca2 m.im Aa3 ca3 m.co Aa4 ca4 m.da Aa5 ca5 m.re) (few : m.Few) (n0 : Nat)
    (hS : ∀ s x W, cInv m Aa1 ca1 Aa2 ca2 Aa3 ca3 Aa4 ca4 Aa5 ca5 g1 g2 w s x W → S W)
    (hr : cReady ops = true)
    (hla : ∃ o, ops[2]? = some o ∧ o.guard = none ∧ o.dst = some 5 ∧ ∀ (x : Act) (W : World), (execOp x.eval o).run Try.prog W = .ok (.value (.slice (some ⟨W.heap.size, 0, none⟩) 0 0)) (W.alloc (.cells #[] 9))) (hlb : ∃ o, ops[6]? = some o ∧ o.guard = none ∧ o.dst = some 9 ∧ ∀ (x : Act) (W : World), (execOp x.eval o).run Try.prog W = .ok (.value (.slice (some ⟨W.heap.size, 0, none⟩) 0 0)) (W.alloc (.cells #[] 9))) (hlc : ∃ o, ops[10]? = some o ∧ o.guard = none ∧ o.dst = some 13 ∧ ∀ (x : Act) (W : World), (execOp x.eval o).run Try.prog W = .ok (.value (.slice (some ⟨W.heap.size, 0, none⟩) 0 0)) (W.alloc (.cells #[] 43))) (hld : ∃ o, ops[14]? = some o ∧ o.guard = none ∧ o.dst = some 17 ∧ ∀ (x : Act) (W : World), (execOp x.eval o).run Try.prog W = .ok (.value (.slice (some ⟨W.heap.size, 0, none⟩) 0 0)) (W.alloc (.cells #[] 43))) (hle : ∃ o, ops[18]? = some o ∧ o.guard = none ∧ o.dst = some 21 ∧ ∀ (x : Act) (W : World), (execOp x.eval o).run Try.prog W = .ok (.value (.slice (some ⟨W.heap.size, 0, none⟩) 0 0)) (W.alloc (.cells #[] 50))) (haa : ∃ o, ops[5]? = some o ∧ o.guard = none ∧ o.dst = some 8 ∧ o.op = .call { callee := .builtin .append, args := #[.tmp 5, .tmp 7], argTypes := #[22, 22] }) (hab : ∃ o, ops[9]? = some o ∧ o.guard = none ∧ o.dst = some 12 ∧ o.op = .call { callee := .builtin .append, args := #[.tmp 9, .tmp 11], argTypes := #[22, 22] }) (hac : ∃ o, ops[13]? = some o ∧ o.guard = none ∧ o.dst = some 16 ∧ o.op = .call { callee := .builtin .append, args := #[.tmp 13, .tmp 15], argTypes := #[23, 23] }) (had : ∃ o, ops[17]? = some o ∧ o.guard = none ∧ o.dst = some 20 ∧ o.op = .call { callee := .builtin .append, args := #[.tmp 17, .tmp 19], argTypes := #[23, 23] })
    (hfin : ∀ s x W, cInv m Aa1 ca1 Aa2 ca2 Aa3 ca3 Aa4 ca4 Aa5 ca5 g1 g2 w s x W → s.rank = 0 → wpAnyLast Try.prog .any ops Q S [] n0 s.l x W)
    (x : Act) (W : World) (h0 : cInv m Aa1 ca1 Aa2 ca2 Aa3 ca3 Aa4 ca4 Aa5 ca5 g1 g2 w ⟨0, 0, 0, 0, 0⟩ x W) : wpAnyLast Try.prog .any ops Q S [] (9 + n0) (Cs.mk 0 0 0 0 0).l x W := by
  refine any_inv Cs.l Cs.rank (cInv m Aa1 ca1 Aa2 ca2 Aa3 ca3 Aa4 ca4 Aa5 ca5 g1 g2 w) n0 hS ?_ ?_ hfin 9 ⟨0, 0, 0, 0, 0⟩ x W rfl h0
  · rintro ⟨a, b, c, d, e⟩ x W h hk
    exact (cReady_spec hr a b c d e h.1 hk).1
  · rintro ⟨a, b, c, d, e⟩ x W h hk i hi
    have hsp := (cReady_spec hr a b c d e h.1 hk).2 i hi
    obtain ⟨hok, A5, c5, A8, c8, A9, c9, A12, c12, A13, c13, A16, c16, A17, c17, A20, c20, A21, c21, rfl, S⟩ := h
    clear hi hr
    rcases hsp with ⟨rfl, rfl⟩ | ⟨rfl, rfl⟩ | ⟨rfl, rfl⟩ | ⟨rfl, rfl⟩ | ⟨rfl, rfl⟩ | ⟨rfl, rfl⟩ | ⟨rfl, rfl, rfl⟩ | ⟨rfl, rfl, rfl⟩ | ⟨rfl, rfl, rfl⟩
    · -- the literal of a
      obtain ⟨o, ho, hg, hd, hrun⟩ := hla
      refine wpOp_step ho (fun K hK => ?_)
      rw [hd]
      refine st_litS (d := Kd.string) (e := 9) [] (inner := []) rfl S (by simp only [Region.wanted, hg]) 5 hd (hrun _ _) (Reps.none _ _) (by simp) ?_
      intro A_ c_ w_ S1
      have S2 := place_nil S1 (by repeat (first | exact Spot.here _ _ | apply Spot.there))
      refine hK _ _ ⟨⟨1, b, c, d, e⟩, rfl, by simp only [Cs.rank] at hk ⊢; simp only [Fin.val_zero, Fin.val_one] <;> omega, ?_, A_, c_, A8, c8, A9, c9, A12, c12, A13, c13, A16, c16, A17, c17, A20, c20, A21, c21, rfl, S2⟩
      exact (show ∀ b c d e : Fin 3, (Cs.mk 0 b c d e).ok = true → (Cs.mk 1 b c d e).ok = true by decide) _ _ _ _ hok
    · -- the literal of b
      obtain ⟨o, ho, hg, hd, hrun⟩ := hlb
      refine wpOp_step ho (fun K hK => ?_)
      rw [hd]
      refine st_litS (d := Kd.string) (e := 9) [] (inner := []) rfl S (by simp only [Region.wanted, hg]) 9 hd (hrun _ _) (Reps.none _ _) (by simp) ?_
      intro A_ c_ w_ S1
      have S2 := place_nil S1 (by repeat (first | exact Spot.here _ _ | apply Spot.there))
      refine hK _ _ ⟨⟨a, 1, c, d, e⟩, rfl, by simp only [Cs.rank] at hk ⊢; simp only [Fin.val_zero, Fin.val_one] <;> omega, ?_, A5, c5, A8, c8, A_, c_, A12, c12, A13, c13, A16, c16, A17, c17, A20, c20, A21, c21, rfl, S2⟩
      exact (show ∀ a c d e : Fin 3, (Cs.mk a 0 c d e).ok = true → (Cs.mk a 1 c d e).ok = true by decide) _ _ _ _ hok
    · -- the literal of c
      obtain ⟨o, ho, hg, hd, hrun⟩ := hlc
      refine wpOp_step ho (fun K hK => ?_)
      rw [hd]
      refine st_litS (d := (Kd.int .u32)) (e := 43) [] (inner := []) rfl S (by simp only [Region.wanted, hg]) 13 hd (hrun _ _) (Reps.none _ _) (by simp) ?_
      intro A_ c_ w_ S1
      have S2 := place_nil S1 (by repeat (first | exact Spot.here _ _ | apply Spot.there))
      refine hK _ _ ⟨⟨a, b, 1, d, e⟩, rfl, by simp only [Cs.rank] at hk ⊢; simp only [Fin.val_zero, Fin.val_one] <;> omega, ?_, A5, c5, A8, c8, A9, c9, A12, c12, A_, c_, A16, c16, A17, c17, A20, c20, A21, c21, rfl, S2⟩
      exact (show ∀ a b d e : Fin 3, (Cs.mk a b 0 d e).ok = true → (Cs.mk a b 1 d e).ok = true by decide) _ _ _ _ hok
    · -- the literal of d
      obtain ⟨o, ho, hg, hd, hrun⟩ := hld
      refine wpOp_step ho (fun K hK => ?_)
      rw [hd]
      refine st_litS (d := (Kd.int .u32)) (e := 43) [] (inner := []) rfl S (by simp only [Region.wanted, hg]) 17 hd (hrun _ _) (Reps.none _ _) (by simp) ?_
      intro A_ c_ w_ S1
      have S2 := place_nil S1 (by repeat (first | exact Spot.here _ _ | apply Spot.there))
      refine hK _ _ ⟨⟨a, b, c, 1, e⟩, rfl, by simp only [Cs.rank] at hk ⊢; simp only [Fin.val_zero, Fin.val_one] <;> omega, ?_, A5, c5, A8, c8, A9, c9, A12, c12, A13, c13, A16, c16, A_, c_, A20, c20, A21, c21, rfl, S2⟩
      exact (show ∀ a b c e : Fin 3, (Cs.mk a b c 0 e).ok = true → (Cs.mk a b c 1 e).ok = true by decide) _ _ _ _ hok
    · -- the literal of e
      obtain ⟨o, ho, hg, hd, hrun⟩ := hle
      refine wpOp_step ho (fun K hK => ?_)
      rw [hd]
      refine st_litS (d := k50) (e := 50) [] (inner := []) rfl S (by simp only [Region.wanted, hg]) 21 hd (hrun _ _) (Reps.none _ _) (by simp) ?_
      intro A_ c_ w_ S1
      have S2 := place_nil S1 (by repeat (first | exact Spot.here _ _ | apply Spot.there))
      refine hK _ _ ⟨⟨a, b, c, d, 1⟩, rfl, by simp only [Cs.rank] at hk ⊢; simp only [Fin.val_zero, Fin.val_one] <;> omega, ?_, A5, c5, A8, c8, A9, c9, A12, c12, A13, c13, A16, c16, A17, c17, A20, c20, A_, c_, rfl, S2⟩
      exact (show ∀ a b c d : Fin 3, (Cs.mk a b c d 0).ok = true → (Cs.mk a b c d 1).ok = true by decide) _ _ _ _ hok
    · -- the append of a
      obtain ⟨o, ho, hg, hd, hop⟩ := haa
      refine wpOp_step ho (fun K hK => ?_)
      rw [hd]
      refine st_rowsS (d := Kd.string) (e := 9) (.tmp 5) (.tmp 7) 22 (.string ⟨#[]⟩) 16 (A := A5) (A1 := Aa1) (N := some 8) (n := 0) (m := m.ex.length) (c := c5) (c1 := ca1) (xs := []) (ys := m.ex) rfl (fun W x cs hk => hk) (by decide) S (by simp only [Region.wanted, hg]) hd hop Try.underlying22 infq9 rfl (by decide) rfl rfl (show Spot (cLst m Aa1 ca1 Aa2 ca2 Aa3 ca3 Aa4 ca4 Aa5 ca5 g1 g2 _ A5 c5 A8 c8 A9 c9 A12 c12 A13 c13 A16 c16 A17 c17 A20 c20 A21 c21) (Ow Kd.string 9 A5 c5 []) _ from (by repeat (first | exact Spot.here _ _ | apply Spot.there))) rfl (Kd.C_below hM.r1 S.out.below) (by have := few.ex; simp only [List.length_nil]; omega) ?_
      intro A_ c_ w_ S2 _
      rw [List.nil_append] at S2 ⊢
      refine hK _ _ ⟨⟨2, b, c, d, e⟩, rfl, by simp only [Cs.rank] at hk ⊢; simp only [Fin.val_one, show ((2 : Fin 3) : Nat) = 2 from rfl]; omega, ?_, A5, c5, A_, c_, A9, c9, A12, c12, A13, c13, A16, c16, A17, c17, A20, c20, A21, c21, rfl, S2⟩
      exact (show ∀ b c d e : Fin 3, (Cs.mk 1 b c d e).ok = true → (Cs.mk 2 b c d e).ok = true by decide) _ _ _ _ hok
    · -- the append of b
      obtain ⟨o, ho, hg, hd, hop⟩ := hab
      refine wpOp_step ho (fun K hK => ?_)
      rw [hd]
      refine st_rowsS (d := Kd.string) (e := 9) (.tmp 9) (.tmp 11) 22 (.string ⟨#[]⟩) 16 (A := A9) (A1 := Aa2) (N := some 12) (n := 0) (m := m.im.length) (c := c9) (c1 := ca2) (xs := []) (ys := m.im) rfl (fun W x cs hk => hk) (by decide) S (by simp only [Region.wanted, hg]) hd hop Try.underlying22 infq9 rfl (by decide) rfl rfl (show Spot (cLst m Aa1 ca1 Aa2 ca2 Aa3 ca3 Aa4 ca4 Aa5 ca5 g1 g2 _ A5 c5 A8 c8 A9 c9 A12 c12 A13 c13 A16 c16 A17 c17 A20 c20 A21 c21) (Ow Kd.string 9 A9 c9 []) _ from (by repeat (first | exact Spot.here _ _ | apply Spot.there))) rfl (Kd.C_below hM.r2 S.out.below) (by have := few.im; simp only [List.length_nil]; omega) ?_
      intro A_ c_ w_ S2 _
      rw [List.nil_append] at S2 ⊢
      refine hK _ _ ⟨⟨2, 2, c, d, e⟩, rfl, by simp only [Cs.rank] at hk ⊢; simp only [Fin.val_one, show ((2 : Fin 3) : Nat) = 2 from rfl]; omega, ?_, A5, c5, A8, c8, A9, c9, A_, c_, A13, c13, A16, c16, A17, c17, A20, c20, A21, c21, rfl, S2⟩
      exact (show ∀ c d e : Fin 3, (Cs.mk 2 1 c d e).ok = true → (Cs.mk 2 2 c d e).ok = true by decide) _ _ _ hok
    · -- the append of c
      obtain ⟨o, ho, hg, hd, hop⟩ := hac
      refine wpOp_step ho (fun K hK => ?_)
      rw [hd]
      refine st_rowsS (d := (Kd.int .u32)) (e := 43) (.tmp 13) (.tmp 15) 23 (.int .u32 0) 4 (A := A13) (A1 := Aa3) (N := some 16) (n := 0) (m := m.co.length) (c := c13) (c1 := ca3) (xs := []) (ys := m.co) rfl (fun W x cs hk => hk) (by decide) S (by simp only [Region.wanted, hg]) hd hop Try.underlying23 infq43 rfl (by decide) rfl rfl (show Spot (cLst m Aa1 ca1 Aa2 ca2 Aa3 ca3 Aa4 ca4 Aa5 ca5 g1 g2 _ A5 c5 A8 c8 A9 c9 A12 c12 A13 c13 A16 c16 A17 c17 A20 c20 A21 c21) (Ow (Kd.int .u32) 43 A13 c13 []) _ from (by repeat (first | exact Spot.here _ _ | apply Spot.there))) rfl (Kd.C_below hM.r3 S.out.below) (by have := few.co; simp only [List.length_nil]; omega) ?_
      intro A_ c_ w_ S2 _
      rw [List.nil_append] at S2 ⊢
      refine hK _ _ ⟨⟨a, 2, 2, d, e⟩, rfl, by simp only [Cs.rank] at hk ⊢; simp only [Fin.val_one, show ((2 : Fin 3) : Nat) = 2 from rfl]; omega, ?_, A5, c5, A8, c8, A9, c9, A12, c12, A13, c13, A_, c_, A17, c17, A20, c20, A21, c21, rfl, S2⟩
      exact (show ∀ a d e : Fin 3, (Cs.mk a 2 1 d e).ok = true → (Cs.mk a 2 2 d e).ok = true by decide) _ _ _ hok
    · -- the append of d
      obtain ⟨o, ho, hg, hd, hop⟩ := had
      refine wpOp_step ho (fun K hK => ?_)
      rw [hd]
      refine st_rowsS (d := (Kd.int .u32)) (e := 43) (.tmp 17) (.tmp 19) 23 (.int .u32 0) 4 (A := A17) (A1 := Aa4) (N := some 20) (n := 0) (m := m.da.length) (c := c17) (c1 := ca4) (xs := []) (ys := m.da) rfl (fun W x cs hk => hk) (by decide) S (by simp only [Region.wanted, hg]) hd hop Try.underlying23 infq43 rfl (by decide) rfl rfl (show Spot (cLst m Aa1 ca1 Aa2 ca2 Aa3 ca3 Aa4 ca4 Aa5 ca5 g1 g2 _ A5 c5 A8 c8 A9 c9 A12 c12 A13 c13 A16 c16 A17 c17 A20 c20 A21 c21) (Ow (Kd.int .u32) 43 A17 c17 []) _ from (by repeat (first | exact Spot.here _ _ | apply Spot.there))) rfl (Kd.C_below hM.r4 S.out.below) (by have := few.da; simp only [List.length_nil]; omega) ?_
      intro A_ c_ w_ S2 _
      rw [List.nil_append] at S2 ⊢
      refine hK _ _ ⟨⟨a, b, 2, 2, e⟩, rfl, by simp only [Cs.rank] at hk ⊢; simp only [Fin.val_one, show ((2 : Fin 3) : Nat) = 2 from rfl]; omega, ?_, A5, c5, A8, c8, A9, c9, A12, c12, A13, c13, A16, c16, A17, c17, A_, c_, A21, c21, rfl, S2⟩
      exact (show ∀ a b e : Fin 3, (Cs.mk a b 2 1 e).ok = true → (Cs.mk a b 2 2 e).ok = true by decide) _ _ _ hok

theorem rsame_mo (m n : Mo) (Aa1 : Option Addr) (ca1 : Nat) (Aa2 : Option Addr) (ca2 : Nat) (Aa3 : Option Addr) (ca3 : Nat) (Aa4 : Option Addr) (ca4 : Nat) (Aa5 : Option Addr) (ca5 : Nat) (Ab1 : Option Addr) (cb1 : Nat) (Ab2 : Option Addr) (cb2 : Nat) (Ab3 : Option Addr) (cb3 : Nat) (Ab4 : Option Addr) (cb4 : Nat) (Ab5 : Option Addr) (cb5 : Nat) (w : World) (h : Md w m.nm Aa1 ca1 m.ex Aa2 ca2 m.im Aa3 ca3 m.co Aa4 ca4 m.da Aa5 ca5 m.re) (h' : Md w n.nm Ab1 cb1 n.ex Ab2 cb2 n.im Ab3 cb3 n.co Ab4 cb4 n.da Ab5 cb5 n.re) (few : m.Few) : Calls Try.prog 16 #[.agg #[.string m.nm, .slice Aa1 m.ex.length ca1, .slice Aa2 m.im.length ca2, .slice Aa3 m.co.length ca3, .slice Aa4 m.da.length ca4, .slice Aa5 m.re.length ca5], .agg #[.string n.nm, .slice Ab1 n.ex.length cb1, .slice Ab2 n.im.length cb2, .slice Ab3 n.co.length cb3, .slice Ab4 n.da.length cb4, .slice Ab5 n.re.length cb5]] w fun z w' => z = .returned (.bool (m.same n)) ∧ Below w.heap.size w w' :=
  budwoodref10_Same.calls 1000002 m.nm Aa1 ca1 m.ex Aa2 ca2 m.im Aa3 ca3 m.co Aa4 ca4 m.da Aa5 ca5 m.re n.nm Ab1 cb1 n.ex Ab2 cb2 n.im Ab3 cb3 n.co Ab4 cb4 n.da Ab5 cb5 n.re (m.same n) w h.r1 h.l1 h.r2 h.l2 h.r3 h.l3 h.r4 h.l4 h.r5 h.l5 h'.r1 h'.l1 h'.r2 h'.l2 h'.r3 h'.l3 h'.r4 h'.l4 h'.r5 h'.l5 (rsame_f (by have := few.ex; omega) (by have := few.im; omega) (by have := few.co; omega) (by have := few.da; omega) (by have := few.re; omega) (by decide))
theorem cs_end : ∀ a b c d e : Fin 3, (Cs.mk a b c d e).ok = true → (Cs.mk a b c d e).rank = 0 → a = 2 ∧ b = 2 ∧ c = 2 ∧ d = 2 ∧ e = 1 := by decide
theorem add_nilA {B : Nat} {w W : World} {L : List Asn} {u v : Asn} (S : St B w W L) : St B w W (gA 0 u v :: L) := S.cons _ trivial (fun _ h => h.elim) (fun _ _ _ h => h.elim)
/-- What a call lays beside what lay. -/
theorem St.join {B : Nat} {w W W' : World} {L L' : List Asn} (h : St B w W L) (h' : St W.heap.size W W' L') : St B w W' (L' ++ L) := by
  have hk := h.keep h'.below
  refine ⟨hk.le, hk.below, fun a ha => ?_, fun a ha k hka => ?_, List.pairwise_append.2 ⟨h'.apart, hk.apart, fun a ha b hb k h1 h2 => ?_⟩⟩
  · rcases List.mem_append.1 ha with ha | ha
    · exact h'.holds a ha
    · exact hk.holds a ha
  · rcases List.mem_append.1 ha with ha | ha
    · exact Nat.le_trans h.leW (h'.new a ha k hka)
    · exact hk.new a ha k hka
  · have := h'.new a ha k h1
    have := b.lt (h.holds b hb) k h2
    omega
set_option maxRecDepth 100000 in
set_option maxHeartbeats 16000000 in
theorem copy11 (m : Mo) (Aa1 : Option Addr) (ca1 : Nat) (Aa2 : Option Addr) (ca2 : Nat) (Aa3 : Option Addr) (ca3 : Nat) (Aa4 : Option Addr) (ca4 : Nat) (Aa5 : Option Addr) (ca5 : Nat) (w : World) (h : Md w m.nm Aa1 ca1 m.ex Aa2 ca2 m.im Aa3 ca3 m.co Aa4 ca4 m.da Aa5 ca5 m.re) (few : m.Few) : Calls Try.prog 11 #[.agg #[.string m.nm, .slice Aa1 m.ex.length ca1, .slice Aa2 m.im.length ca2, .slice Aa3 m.co.length ca3, .slice Aa4 m.da.length ca4, .slice Aa5 m.re.length ca5]] w fun z w' => ∃ A1 c1 A2 c2 A3 c3 A4 c4 A5 c5, z = .returned (.agg #[.string m.nm, .slice A1 m.ex.length c1, .slice A2 m.im.length c2, .slice A3 m.co.length c3, .slice A4 m.da.length c4, .slice A5 m.re.length c5]) ∧ Aside0 (St w.heap.size w w' [Ow k50 50 A5 c5 m.re, Ow (Kd.int .u32) 43 A4 c4 m.da, Ow (Kd.int .u32) 43 A3 c3 m.co, Ow Kd.string 9 A2 c2 m.im, Ow Kd.string 9 A1 c1 m.ex]) := by
  have HM := Aside0.mk h
  have S := Aside0.mk (St.start w)
  clear h
  go_enter Try.func11, Try.ntmps11
  go_wp2_with (first | ((with_reducible refine gate_dst (N := 1) rfl ?_); refine ev_boxs S ?_ 1 rfl rfl rfl ?_; (first | exact want0 rfl | exact want1 rfl rfl rfl rfl); intro g1 w1 S_; clear S; have S := S_; clear S_) | ((with_reducible refine gate_dst (N := 2) rfl ?_); refine ev_alloc #[.string ⟨#[]⟩, .slice none 0 0, .slice none 0 0, .slice none 0 0, .slice none 0 0, .slice none 0 0] rfl S ?_ 2 rfl rfl z26 ?_; (first | exact want0 rfl | exact want1 rfl rfl rfl rfl); intro g2 w2 S_; clear S; have S := S_; clear S_) | (refine ev_own1 S ?_ rfl o9 rfl (by repeat (first | exact Spot.here _ _ | apply Spot.there)) (by exact rfl) ?_; (first | exact want0 rfl | exact want1 rfl rfl rfl rfl)) | (refine ev_own1 S ?_ rfl o22 rfl (by repeat (first | exact Spot.here _ _ | apply Spot.there)) (by exact rfl) ?_; (first | exact want0 rfl | exact want1 rfl rfl rfl rfl)) | (refine ev_own1 S ?_ rfl o23 rfl (by repeat (first | exact Spot.here _ _ | apply Spot.there)) (by exact rfl) ?_; (first | exact want0 rfl | exact want1 rfl rfl rfl rfl)) | (refine ev_own1 S ?_ rfl o24 rfl (by repeat (first | exact Spot.here _ _ | apply Spot.there)) (by exact rfl) ?_; (first | exact want0 rfl | exact want1 rfl rfl rfl rfl)) | (refine ev_puts S ?_ rfl rfl s26 rfl rfl (by repeat (first | exact Spot.here _ _ | apply Spot.there)) rfl ?_ ?_ ?_; (first | exact want0 rfl | exact want1 rfl rfl rfl rfl); rfl; rfl; intro w_ S_; simp only [putAt, List.set_cons_zero, List.set_cons_succ] at S_; clear S; have S := S_; clear S_))
  have S2 := Aside0.mk S.out.drew
  clear S
  refine start_ (n := 24) (S := fun w' => w'.cell? ⟨g1, 0, none⟩ = some (.string m.nm) ∧ w'.cell? ⟨g1, 1, none⟩ = some (.slice Aa1 m.ex.length ca1) ∧ w'.cell? ⟨g1, 2, none⟩ = some (.slice Aa2 m.im.length ca2) ∧ w'.cell? ⟨g1, 3, none⟩ = some (.slice Aa3 m.co.length ca3) ∧ w'.cell? ⟨g1, 4, none⟩ = some (.slice Aa4 m.da.length ca4) ∧ w'.cell? ⟨g1, 5, none⟩ = some (.slice Aa5 m.re.length ca5)) (ds := []) #[false, false, false, false, false, false, false, false, false, false, false, false, false, false, false, false, false, false, false, false, false, false, false, false] (by kernel_rfl) rfl rfl ⟨((own_cell (g := g1) S2 (by repeat (first | exact Spot.here _ _ | apply Spot.there)) 0).trans rfl), ((own_cell (g := g1) S2 (by repeat (first | exact Spot.here _ _ | apply Spot.there)) 1).trans rfl), ((own_cell (g := g1) S2 (by repeat (first | exact Spot.here _ _ | apply Spot.there)) 2).trans rfl), ((own_cell (g := g1) S2 (by repeat (first | exact Spot.here _ _ | apply Spot.there)) 3).trans rfl), ((own_cell (g := g1) S2 (by repeat (first | exact Spot.here _ _ | apply Spot.there)) 4).trans rfl), ((own_cell (g := g1) S2 (by repeat (first | exact Spot.here _ _ | apply Spot.there)) 5).trans rfl)⟩ (fun hHeld => ?_)
  refine pure_ (i := 0) (N := some 3) (v := ?_) (a' := ?_) #[true, false, false, false, false, false, false, false, false, false, false, false, false, false, false, false, false, false, false, false, false, false, false, false] rfl rfl (by kernel_rfl) (fun _ _ _ h => h) (Or.inl ⟨by rfl, ?_⟩) ?_ ?_
  rotate_left
  · intro w'
    go_simp
    with_reducible rfl
  rotate_left
  · simp only [Act.put, List.setIfInBounds_toArray, List.set_cons_zero, List.set_cons_succ, i64_w, i32_w]
    rfl
  refine pure_ (i := 3) (N := some 6) (v := ?_) (a' := ?_) #[true, false, false, true, false, false, false, false, false, false, false, false, false, false, false, false, false, false, false, false, false, false, false, false] rfl rfl (by kernel_rfl) (fun _ _ _ h => h) (Or.inl ⟨by rfl, ?_⟩) ?_ ?_
  rotate_left
  · intro w'
    go_simp
    with_reducible rfl
  rotate_left
  · simp only [Act.put, List.setIfInBounds_toArray, List.set_cons_zero, List.set_cons_succ, i64_w, i32_w]
    rfl
  refine pure_ (i := 7) (N := some 10) (v := ?_) (a' := ?_) #[true, false, false, true, false, false, false, true, false, false, false, false, false, false, false, false, false, false, false, false, false, false, false, false] rfl rfl (by kernel_rfl) (fun _ _ _ h => h) (Or.inl ⟨by rfl, ?_⟩) ?_ ?_
  rotate_left
  · intro w'
    go_simp
    with_reducible rfl
  rotate_left
  · simp only [Act.put, List.setIfInBounds_toArray, List.set_cons_zero, List.set_cons_succ, i64_w, i32_w]
    rfl
  refine pure_ (i := 11) (N := some 14) (v := ?_) (a' := ?_) #[true, false, false, true, false, false, false, true, false, false, false, true, false, false, false, false, false, false, false, false, false, false, false, false] rfl rfl (by kernel_rfl) (fun _ _ _ h => h) (Or.inl ⟨by rfl, ?_⟩) ?_ ?_
  rotate_left
  · intro w'
    go_simp
    with_reducible rfl
  rotate_left
  · simp only [Act.put, List.setIfInBounds_toArray, List.set_cons_zero, List.set_cons_succ, i64_w, i32_w]
    rfl
  refine pure_ (i := 15) (N := some 18) (v := ?_) (a' := ?_) #[true, false, false, true, false, false, false, true, false, false, false, true, false, false, false, true, false, false, false, false, false, false, false, false] rfl rfl (by kernel_rfl) (fun _ _ _ h => h) (Or.inl ⟨by rfl, ?_⟩) ?_ ?_
  rotate_left
  · intro w'
    go_simp
    with_reducible rfl
  rotate_left
  · simp only [Act.put, List.setIfInBounds_toArray, List.set_cons_zero, List.set_cons_succ, i64_w, i32_w]
    rfl
  refine pure_ (i := 19) (N := some 22) (v := ?_) (a' := ?_) #[true, false, false, true, false, false, false, true, false, false, false, true, false, false, false, true, false, false, false, true, false, false, false, false] rfl rfl (by kernel_rfl) (fun _ _ _ h => h) (Or.inl ⟨by rfl, ?_⟩) ?_ ?_
  rotate_left
  · intro w'
    go_simp
    with_reducible rfl
  rotate_left
  · simp only [Act.put, List.setIfInBounds_toArray, List.set_cons_zero, List.set_cons_succ, i64_w, i32_w]
    rfl
  refine take_ (i := 1) (N := some 4) (v := ?_) (a' := ?_) #[true, true, false, true, false, false, false, true, false, false, false, true, false, false, false, true, false, false, false, true, false, false, false, false] rfl rfl (by kernel_rfl) (fun _ _ _ h => h) (Or.inl ⟨by rfl, ?_⟩) hHeld ?_ ?_
  rotate_left
  · rintro w' ⟨s0, s1, s2, s3, s4, s5⟩
    go_simp
    with_reducible rfl
  rotate_left
  · simp only [Act.put, List.setIfInBounds_toArray, List.set_cons_zero, List.set_cons_succ, i64_w, i32_w]
    rfl
  refine take_ (i := 4) (N := some 7) (v := ?_) (a' := ?_) #[true, true, false, true, true, false, false, true, false, false, false, true, false, false, false, true, false, false, false, true, false, false, false, false] rfl rfl (by kernel_rfl) (fun _ _ _ h => h) (Or.inl ⟨by rfl, ?_⟩) hHeld ?_ ?_
  rotate_left
  · rintro w' ⟨s0, s1, s2, s3, s4, s5⟩
    go_simp
    with_reducible rfl
  rotate_left
  · simp only [Act.put, List.setIfInBounds_toArray, List.set_cons_zero, List.set_cons_succ, i64_w, i32_w]
    rfl
  refine take_ (i := 8) (N := some 11) (v := ?_) (a' := ?_) #[true, true, false, true, true, false, false, true, true, false, false, true, false, false, false, true, false, false, false, true, false, false, false, false] rfl rfl (by kernel_rfl) (fun _ _ _ h => h) (Or.inl ⟨by rfl, ?_⟩) hHeld ?_ ?_
  rotate_left
  · rintro w' ⟨s0, s1, s2, s3, s4, s5⟩
    go_simp
    with_reducible rfl
  rotate_left
  · simp only [Act.put, List.setIfInBounds_toArray, List.set_cons_zero, List.set_cons_succ, i64_w, i32_w]
    rfl
  refine take_ (i := 12) (N := some 15) (v := ?_) (a' := ?_) #[true, true, false, true, true, false, false, true, true, false, false, true, true, false, false, true, false, false, false, true, false, false, false, false] rfl rfl (by kernel_rfl) (fun _ _ _ h => h) (Or.inl ⟨by rfl, ?_⟩) hHeld ?_ ?_
  rotate_left
  · rintro w' ⟨s0, s1, s2, s3, s4, s5⟩
    go_simp
    with_reducible rfl
  rotate_left
  · simp only [Act.put, List.setIfInBounds_toArray, List.set_cons_zero, List.set_cons_succ, i64_w, i32_w]
    rfl
  refine take_ (i := 16) (N := some 19) (v := ?_) (a' := ?_) #[true, true, false, true, true, false, false, true, true, false, false, true, true, false, false, true, true, false, false, true, false, false, false, false] rfl rfl (by kernel_rfl) (fun _ _ _ h => h) (Or.inl ⟨by rfl, ?_⟩) hHeld ?_ ?_
  rotate_left
  · rintro w' ⟨s0, s1, s2, s3, s4, s5⟩
    go_simp
    with_reducible rfl
  rotate_left
  · simp only [Act.put, List.setIfInBounds_toArray, List.set_cons_zero, List.set_cons_succ, i64_w, i32_w]
    rfl
  refine take_ (i := 20) (N := some 23) (v := ?_) (a' := ?_) #[true, true, false, true, true, false, false, true, true, false, false, true, true, false, false, true, true, false, false, true, true, false, false, false] rfl rfl (by kernel_rfl) (fun _ _ _ h => h) (Or.inl ⟨by rfl, ?_⟩) hHeld ?_ ?_
  rotate_left
  · rintro w' ⟨s0, s1, s2, s3, s4, s5⟩
    go_simp
    with_reducible rfl
  rotate_left
  · simp only [Act.put, List.setIfInBounds_toArray, List.set_cons_zero, List.set_cons_succ, i64_w, i32_w]
    rfl
  refine join_ (σ := (Option Addr × Nat) × (Option Addr × Nat) × (Option Addr × Nat) × (Option Addr × Nat) × (Option Addr × Nat) × (Option Addr × Nat) × (Option Addr × Nat) × (Option Addr × Nat) × (Option Addr × Nat)) 3 #[true, true, true, true, true, true, true, true, true, true, true, true, true, true, true, true, true, true, true, true, true, false, false, false] (fun s => [(5, .slice s.1.1 0 s.1.2), (8, .slice s.2.1.1 m.ex.length s.2.1.2), (9, .slice s.2.2.1.1 0 s.2.2.1.2), (12, .slice s.2.2.2.1.1 m.im.length s.2.2.2.1.2), (13, .slice s.2.2.2.2.1.1 0 s.2.2.2.2.1.2), (16, .slice s.2.2.2.2.2.1.1 m.co.length s.2.2.2.2.2.1.2), (17, .slice s.2.2.2.2.2.2.1.1 0 s.2.2.2.2.2.2.1.2), (20, .slice s.2.2.2.2.2.2.2.1.1 m.da.length s.2.2.2.2.2.2.2.1.2), (21, .slice s.2.2.2.2.2.2.2.2.1 0 s.2.2.2.2.2.2.2.2.2)]) (fun s w' => Aside0 (St w.heap.size w w' [Ow k50 50 s.2.2.2.2.2.2.2.2.1 s.2.2.2.2.2.2.2.2.2 [], Ow (Kd.int .u32) 43 s.2.2.2.2.2.2.2.1.1 s.2.2.2.2.2.2.2.1.2 m.da, Ow (Kd.int .u32) 43 s.2.2.2.2.2.1.1 s.2.2.2.2.2.1.2 m.co, Ow Kd.string 9 s.2.2.2.1.1 s.2.2.2.1.2 m.im, Ow Kd.string 9 s.2.1.1 s.2.1.2 m.ex, Bk g2 #[.string ⟨#[]⟩, .slice none 0 0, .slice none 0 0, .slice none 0 0, .slice none 0 0, .slice none 0 0] 26, Bk g1 #[.string m.nm, .slice Aa1 m.ex.length ca1, .slice Aa2 m.im.length ca2, .slice Aa3 m.co.length ca3, .slice Aa4 m.da.length ca4, .slice Aa5 m.re.length ca5] 26])) ?_ ?_
  rotate_left
  · intro hCont
    refine cp_inv m Aa1 ca1 Aa2 ca2 Aa3 ca3 Aa4 ca4 Aa5 ca5 g1 g2 w HM.out few 3 ?hS (by kernel_rfl) ⟨_, rfl, rfl, rfl, fun x W => by first | (go_simp; done) | (go_simp; rfl)⟩ ⟨_, rfl, rfl, rfl, fun x W => by first | (go_simp; done) | (go_simp; rfl)⟩ ⟨_, rfl, rfl, rfl, fun x W => by first | (go_simp; done) | (go_simp; rfl)⟩ ⟨_, rfl, rfl, rfl, fun x W => by first | (go_simp; done) | (go_simp; rfl)⟩ ⟨_, rfl, rfl, rfl, fun x W => by first | (go_simp; done) | (go_simp; rfl)⟩ ⟨_, rfl, rfl, rfl, rfl⟩ ⟨_, rfl, rfl, rfl, rfl⟩ ⟨_, rfl, rfl, rfl, rfl⟩ ⟨_, rfl, rfl, rfl, rfl⟩ ?hfin _ _ ?h0
    case hS =>
      rintro s x W ⟨_, A5, c5, A8, c8, A9, c9, A12, c12, A13, c13, A16, c16, A17, c17, A20, c20, A21, c21, rfl, S⟩
      unfold cLst at S
      exact ⟨((own_cell (g := g1) S (by repeat (first | exact Spot.here _ _ | apply Spot.there)) 0).trans rfl), ((own_cell (g := g1) S (by repeat (first | exact Spot.here _ _ | apply Spot.there)) 1).trans rfl), ((own_cell (g := g1) S (by repeat (first | exact Spot.here _ _ | apply Spot.there)) 2).trans rfl), ((own_cell (g := g1) S (by repeat (first | exact Spot.here _ _ | apply Spot.there)) 3).trans rfl), ((own_cell (g := g1) S (by repeat (first | exact Spot.here _ _ | apply Spot.there)) 4).trans rfl), ((own_cell (g := g1) S (by repeat (first | exact Spot.here _ _ | apply Spot.there)) 5).trans rfl)⟩
    case hfin =>
      rintro ⟨a, b, c, d, e⟩ x W ⟨hok, A5, c5, A8, c8, A9, c9, A12, c12, A13, c13, A16, c16, A17, c17, A20, c20, A21, c21, rfl, S⟩ hk
      obtain ⟨rfl, rfl, rfl, rfl, rfl⟩ := cs_end a b c d e hok hk
      exact norm_ (by simp only [putAll, Act.put, List.setIfInBounds_toArray, List.set_cons_zero, List.set_cons_succ]; rfl) (hCont ((A5, c5), (A8, c8), (A9, c9), (A12, c12), (A13, c13), (A16, c16), (A17, c17), (A20, c20), (A21, c21)) _ S)
    case h0 =>
      exact ⟨rfl, none, 0, none, 0, none, 0, none, 0, none, 0, none, 0, none, 0, none, 0, none, 0, rfl, ⟨add_nilA (add_nilA (add_nilA (add_nilA (add_nilA S2.out))))⟩⟩
  rintro ⟨⟨A5, c5⟩, ⟨A8, c8⟩, ⟨A9, c9⟩, ⟨A12, c12⟩, ⟨A13, c13⟩, ⟨A16, c16⟩, ⟨A17, c17⟩, ⟨A20, c20⟩, ⟨A21, c21⟩⟩ w8 S8
  simp only at S8
  have hHeld : w8.cell? ⟨g1, 0, none⟩ = some (.string m.nm) ∧ w8.cell? ⟨g1, 1, none⟩ = some (.slice Aa1 m.ex.length ca1) ∧ w8.cell? ⟨g1, 2, none⟩ = some (.slice Aa2 m.im.length ca2) ∧ w8.cell? ⟨g1, 3, none⟩ = some (.slice Aa3 m.co.length ca3) ∧ w8.cell? ⟨g1, 4, none⟩ = some (.slice Aa4 m.da.length ca4) ∧ w8.cell? ⟨g1, 5, none⟩ = some (.slice Aa5 m.re.length ca5) := ⟨((own_cell (g := g1) S8 (by repeat (first | exact Spot.here _ _ | apply Spot.there)) 0).trans rfl), ((own_cell (g := g1) S8 (by repeat (first | exact Spot.here _ _ | apply Spot.there)) 1).trans rfl), ((own_cell (g := g1) S8 (by repeat (first | exact Spot.here _ _ | apply Spot.there)) 2).trans rfl), ((own_cell (g := g1) S8 (by repeat (first | exact Spot.here _ _ | apply Spot.there)) 3).trans rfl), ((own_cell (g := g1) S8 (by repeat (first | exact Spot.here _ _ | apply Spot.there)) 4).trans rfl), ((own_cell (g := g1) S8 (by repeat (first | exact Spot.here _ _ | apply Spot.there)) 5).trans rfl)⟩
  refine norm_ (a' := ?_) ?_ ?_
  rotate_left
  · simp only [putAll, Act.put, List.setIfInBounds_toArray, List.set_cons_zero, List.set_cons_succ]
    rfl
  refine one_ (i := 21) (N := some 24) #[true, true, true, true, true, true, true, true, true, true, true, true, true, true, true, true, true, true, true, true, true, true, false, false] rfl rfl (by kernel_rfl) (by decide) (fun K hK => ?_)
  refine st_rowsS (d := k50) (e := 50) (.tmp 21) (.tmp 23) 24 (.agg #[.int .u8 0, .int .u16 0, .int .u16 0]) 6 (A := A21) (A1 := Aa5) (N := some 24) (n := 0) (m := m.re.length) (c := c21) (c1 := ca5) (xs := []) (ys := m.re) rfl (fun W x cs hk => by obtain rfl := k50_open hk; exact k50_mkM _ _ _ _) (by decide) S8 (by rfl) rfl rfl Try.underlying24 info50 rfl (by decide) rfl rfl (by repeat (first | exact Spot.here _ _ | apply Spot.there)) rfl (Kd.C_below HM.out.r5 S8.out.below) (by have := few.re; simp only [List.length_nil]; omega) ?_
  intro A24 c24 w24 S24 hA24
  clear hA24
  simp only [List.nil_append] at S24 ⊢
  refine hK.out _ _ ⟨((own_cell (g := g1) S24 (by repeat (first | exact Spot.here _ _ | apply Spot.there)) 0).trans rfl), ((own_cell (g := g1) S24 (by repeat (first | exact Spot.here _ _ | apply Spot.there)) 1).trans rfl), ((own_cell (g := g1) S24 (by repeat (first | exact Spot.here _ _ | apply Spot.there)) 2).trans rfl), ((own_cell (g := g1) S24 (by repeat (first | exact Spot.here _ _ | apply Spot.there)) 3).trans rfl), ((own_cell (g := g1) S24 (by repeat (first | exact Spot.here _ _ | apply Spot.there)) 4).trans rfl), ((own_cell (g := g1) S24 (by repeat (first | exact Spot.here _ _ | apply Spot.there)) 5).trans rfl)⟩ (fun hHeld => ?_)
  clear hK K
  refine norm_ (a' := ?_) ?_ ?_
  rotate_left
  · show Act.put _ (some 24) _ = _
    simp only [Act.put, List.setIfInBounds_toArray, List.set_cons_zero, List.set_cons_succ, i64_w, i32_w]
    rfl
  refine pure_ (i := 22) (N := some 25) (v := ?_) (a' := ?_) #[true, true, true, true, true, true, true, true, true, true, true, true, true, true, true, true, true, true, true, true, true, true, true, false] rfl rfl (by kernel_rfl) (fun _ _ _ h => h) (Or.inl ⟨by rfl, ?_⟩) ?_ ?_
  rotate_left
  · intro w'
    go_simp
    with_reducible rfl
  rotate_left
  · simp only [Act.put, List.setIfInBounds_toArray, List.set_cons_zero, List.set_cons_succ, i64_w, i32_w]
    rfl
  refine one_ (i := 23) (N := none) #[true, true, true, true, true, true, true, true, true, true, true, true, true, true, true, true, true, true, true, true, true, true, true, true] rfl rfl (by kernel_rfl) (by decide) (fun K hK => ?_)
  refine st_puts (g := g2) S24 (by rfl) rfl rfl s26 rfl rfl (by repeat (first | exact Spot.here _ _ | apply Spot.there)) rfl (by rfl) (by rfl) ?_
  intro w5 S5
  simp only [putAt, List.set_cons_zero, List.set_cons_succ] at S5
  refine hK.out _ _ ⟨((own_cell (g := g1) S5 (by repeat (first | exact Spot.here _ _ | apply Spot.there)) 0).trans rfl), ((own_cell (g := g1) S5 (by repeat (first | exact Spot.here _ _ | apply Spot.there)) 1).trans rfl), ((own_cell (g := g1) S5 (by repeat (first | exact Spot.here _ _ | apply Spot.there)) 2).trans rfl), ((own_cell (g := g1) S5 (by repeat (first | exact Spot.here _ _ | apply Spot.there)) 3).trans rfl), ((own_cell (g := g1) S5 (by repeat (first | exact Spot.here _ _ | apply Spot.there)) 4).trans rfl), ((own_cell (g := g1) S5 (by repeat (first | exact Spot.here _ _ | apply Spot.there)) 5).trans rfl)⟩ (fun hHeld => ?_)
  clear hK K
  refine done_ (by kernel_rfl) ?_

  clear S2 S8 S24
  have S := S5
  clear S5
  go_wp2
  refine ret1 (r := .cell 2 26) rfl rfl (Bk.vals S rfl (by repeat (first | exact Spot.here _ _ | apply Spot.there)) m26 (by exact rfl) .nil) ?_
  exact ⟨A8, c8, A12, c12, A16, c16, A20, c20, A24, c24, rfl, ⟨S.out.drop (by repeat (first | exact List.Sublist.refl _ | apply List.Sublist.cons_cons | apply List.Sublist.cons))⟩⟩
end Go.Proofs.Ytkoimdgpicmakaa.Ob
