/- Some graphs that may share their sets, as one assertion; the methods upon the first of them. -/
import Derived.Test.YtaomemhnjpemiaaSame
namespace Go.Proofs.Ytaomemhnjpemiaa.Mp
open Go Go.Maps Go.RowKit Go.Proofs.Ytaomemhnjpemiaa.PB Go.Proofs.Ytaomemhnjpemiaa.Doc Go.Proofs.Ytaomemhnjpemiaa.Sep Go.Proofs.Ytaomemhnjpemiaa.Ev Go.Proofs.Ytaomemhnjpemiaa.Ty Go.Proofs.YtaomemhnjpemiaaW.PrintWords Go.Proofs.YtaomemhnjpemiaaW.PrintLast Go.Proofs.YtaomemhnjpemiaaW.PrintMore
set_option linter.unusedVariables false
set_option linter.unusedSimpArgs false

/-- a graph, and where it lies -/
structure Gd where
 g : Nat
 bm : Nat
 n : Nat
 f : ByteArray → Option Nat
 G : List S73
def Gd.foot (x : Gd) (k : Nat) : Prop := k = x.g ∨ k = x.bm ∨ ∃ s, x.f s = some k
def Gd.at (x : Gd) (w : World) : Prop := Gr w x.g x.bm x.n x.f x.G
/-- they lie so; none's map is another's block -/
structure Gds (W : World) (l : List Gd) : Prop where
 gr : ∀ x ∈ l, x.at W
 far : ∀ x ∈ l, ∀ y ∈ l, Far x.bm y.f ∧ x.bm ≠ y.g
 pair : l.Pairwise (fun x y => x.bm ≠ y.bm)
theorem Gd.at_move {x : Gd} {W W' : World} (h : x.at W) (hm : ∀ k, x.foot k → W'.heap[k]? = W.heap[k]?) : x.at W' :=
 ⟨h.good, (hm _ (.inl rfl)).trans h.blk, h.map.of_block (hm _ (.inr (.inl rfl))), h.cnt, h.dom, fun s c hs => by
  obtain ⟨m, h1, h2⟩ := h.set s c hs
  exact ⟨m, h1, h2.of_block (hm c (.inr (.inr ⟨s, hs⟩)))⟩, h.small, h.len⟩
theorem Gd.at_lt {x : Gd} {W : World} (h : x.at W) {k : Nat} (hk : x.foot k) : k < W.heap.size := by
 rcases hk with rfl | rfl | ⟨s, hs⟩
 ·exact h.lt
 ·exact h.map.lt
 ·obtain ⟨m, _, h2⟩ := h.set s k hs; exact h2.lt
def GAs (l : List Gd) : Asn where
 foot k := ∃ x ∈ l, x.foot k
 pred W := Gds W l
 move h hp := ⟨fun x hx => Gd.at_move (hp.gr x hx) (fun k hk => h k ⟨x, hx, hk⟩), hp.far, hp.pair⟩
 lt hp k hk := let ⟨x, hx, h1⟩ := hk; Gd.at_lt (hp.gr x hx) h1
section
variable {W : World} {l : List Gd} {k : Nat}
theorem GAs.out (h : (GAs l).pred W) : Gds W l := h
theorem GAs.mk (h : Gds W l) : (GAs l).pred W := h
theorem GAs.foot_iff : (GAs l).foot k ↔ ∃ x ∈ l, x.foot k := Iff.rfl
end
attribute [irreducible] GAs
section
variable {B : Nat} {w W W' : World} {L : List Asn} {F : Asn → List Asn} {x : Gd} {l : List Gd}
theorem gds_at (S : Aside0 (St B w W L)) (hs : Spot L (GAs l) F) : Gds W l := GAs.out (pred_at S.out hs)
theorem gr_at (S : Aside0 (St B w W L)) (hs : Spot L (GAs (x :: l)) F) : Gr W x.g x.bm x.n x.f x.G := (gds_at S hs).gr x (by simp)
theorem far_at (S : Aside0 (St B w W L)) (hs : Spot L (GAs (x :: l)) F) : Far x.bm x.f := ((gds_at S hs).far x (by simp) x (by simp)).1
/-- the first graph has changed -/
theorem gds_chg {G' : List S73} {n' : Nat} {f' : ByteArray → Option Nat} (h : Gds W (x :: l)) (hg : W.grownBy W' (some x.bm)) (hr : Gr W' x.g x.bm n' f' G') (hn : ∀ s c, f' s = some c → x.f s = some c ∨ W.heap.size ≤ c) : Gds W' (⟨x.g, x.bm, n', f', G'⟩ :: l) := by
 have hx := h.gr x (by simp)
 have newfar : ∀ y ∈ x :: l, Far y.bm f' := fun y hy s c hs => by
  rcases hn s c hs with h1 | h1
  ·exact (h.far y hy x (by simp)).1 s c h1
  ·have : y.bm < W.heap.size := (h.gr y hy).map.lt
   omega
 refine ⟨fun y hy => ?_, fun y hy z hz => ?_, ?_⟩
 ·rcases List.mem_cons.1 hy with rfl | hy
  ·exact hr
  ·have h1 := h.gr y (List.mem_cons_of_mem _ hy)
   have h2 := h.far x (by simp) y (List.mem_cons_of_mem _ hy)
   exact Gr.kept h1 hg (fun e => h2.2 e.symm) (fun e => (List.pairwise_cons.1 h.pair).1 y hy e.symm) h2.1
 ·have hy' : ∃ y' ∈ x :: l, y.bm = y'.bm := by
   rcases List.mem_cons.1 hy with rfl | hy
   ·exact ⟨x, by simp, rfl⟩
   ·exact ⟨y, List.mem_cons_of_mem _ hy, rfl⟩
  obtain ⟨y', hy1, hy2⟩ := hy'
  rw [hy2]
  rcases List.mem_cons.1 hz with rfl | hz
  ·exact ⟨newfar y' hy1, (h.far y' hy1 x (by simp)).2⟩
  ·exact h.far y' hy1 z (List.mem_cons_of_mem _ hz)
 ·exact List.pairwise_cons.2 ⟨fun y hy => (List.pairwise_cons.1 h.pair).1 y hy, (List.pairwise_cons.1 h.pair).2⟩
theorem foot_chg {G' : List S73} {n' : Nat} {f' : ByteArray → Option Nat} (hn : ∀ s c, f' s = some c → x.f s = some c ∨ W.heap.size ≤ c) {k : Nat} (hk : (GAs (⟨x.g, x.bm, n', f', G'⟩ :: l)).foot k) : (GAs (x :: l)).foot k ∨ W.heap.size ≤ k := by
 obtain ⟨y, hy, h1⟩ := GAs.foot_iff.1 hk
 rcases List.mem_cons.1 hy with rfl | hy
 ·rcases h1 with h1 | h1 | ⟨s, hs⟩
  ·exact .inl (GAs.foot_iff.2 ⟨x, by simp, .inl h1⟩)
  ·exact .inl (GAs.foot_iff.2 ⟨x, by simp, .inr (.inl h1)⟩)
  ·exact (hn s k hs).imp_left (fun h2 => GAs.foot_iff.2 ⟨x, by simp, .inr (.inr ⟨s, h2⟩)⟩)
 ·exact .inl (GAs.foot_iff.2 ⟨y, List.mem_cons_of_mem _ hy, h1⟩)
theorem ga_chg {G' : List S73} {n' : Nat} {f' : ByteArray → Option Nat} (S : Aside0 (St B w W L)) (hs : Spot L (GAs (x :: l)) F) (C : Chg W W' x.g x.bm x.n x.f G' n' f') : Aside0 (St B w W' (F (GAs (⟨x.g, x.bm, n', f', G'⟩ :: l)))) :=
 ⟨turn_at S.out hs C.grown.os C.grown.tape C.grown.output C.grown.size (fun k hk hn => C.grown.block k hk (fun e => hn (GAs.foot_iff.2 ⟨x, by simp, .inr (.inl (Option.some.inj e))⟩))) (GAs.mk (gds_chg (gds_at S hs) C.grown C.gr C.new)) (fun k hk => foot_chg C.new hk)⟩
theorem own_far {A : Option Addr} {c : Nat} {xs : List ByteArray} {F2 : Asn → List Asn} (S : Aside0 (St B w W L)) (h1 : Spot L (Own Kd.string 9 A c xs) F2) (ht : Two L (Own Kd.string 9 A c xs) (GAs (x :: l))) : ∀ W', W.grownBy W' (some x.bm) → Kd.C Kd.string W' A xs.length xs := fun W' hg =>
 Own.reads ((Own Kd.string 9 A c xs).move (fun k hk => hg.block k ((Own Kd.string 9 A c xs).lt (pred_at S.out h1) k hk) (fun e => apart_at S.out ht k hk (GAs.foot_iff.2 ⟨x, by simp, .inr (.inl (Option.some.inj e))⟩))) (pred_at S.out h1))
theorem old_far {A : Option Addr} {xs : List ByteArray} (S : Aside0 (St w.heap.size w W L)) (hs : Spot L (GAs (x :: l)) F) (hC : Kd.C Kd.string w A xs.length xs) : ∀ W', W.grownBy W' (some x.bm) → Kd.C Kd.string W' A xs.length xs := fun W' hg =>
 Kd.C_below hC (below_grownBy S.out.below hg (new_at S.out hs x.bm (GAs.foot_iff.2 ⟨x, by simp, .inr (.inl rfl)⟩)))
variable {s : ByteArray} {xs : List ByteArray}
theorem new_ev (S : Aside0 (St B w W L)) : Calls Try.prog 10 #[] W fun z W' => ∃ g bm, z = .returned (.pointer (some ⟨g, 0, none⟩)) ∧ Aside0 (St B w W' (GAs [⟨g, bm, 0, fun _ => none, []⟩] :: L)) := by
 refine (new_calls W).mono ?_
 rintro z W' ⟨g, bm, rfl, h1, h2, h3, h4⟩
 refine ⟨g, bm, rfl, ⟨St.add S.out h4 _ (GAs.mk ⟨fun x hx => ?_, fun x hx y hy => ?_, List.pairwise_singleton _ _⟩) (fun k hk => ?_)⟩⟩
 ·rw [List.mem_singleton.1 hx]; exact h3
 ·rw [List.mem_singleton.1 hx, List.mem_singleton.1 hy]
  exact ⟨fun s c hs => (by cases hs), fun e => h3.ne e.symm⟩
 ·obtain ⟨x, hx, hk⟩ := GAs.foot_iff.1 hk
  rw [List.mem_singleton.1 hx] at hk
  rcases hk with rfl | rfl | ⟨s, hs⟩
  ·exact h1
  ·exact h2
  ·cases hs
theorem add_ev (A : Option Addr) (c : Nat) (S : Aside0 (St B w W L)) (hsp : Spot L (GAs (x :: l)) F) (hn : x.n < 1000000) (hl : x.G.length < 1000) (hs : s.size ≤ maxLen) (hCN : ∀ W', W.grownBy W' (some x.bm) → Kd.C Kd.string W' A xs.length xs) (hsz : ∀ x ∈ xs, x.size ≤ maxLen) (hx : xs.length ≤ 1000000) :
  Calls Try.prog 21 #[.pointer (some ⟨x.g, 0, none⟩), .string s, .slice A xs.length c] W fun z W' => ∃ n' f', z = .returned (.int .i64 (errAdd x.G s xs)) ∧ n' ≤ x.n + 1 ∧ Aside0 (St B w W' (F (GAs (⟨x.g, x.bm, n', f', aftAdd x.G s xs⟩ :: l)))) := by
 refine (add_all A c (gr_at S hsp) (far_at S hsp) hn hl hs hCN hsz hx).mono ?_
 rintro z W' ⟨rfl, n', f', C⟩
 exact ⟨n', f', rfl, C.cnt, ga_chg S hsp C⟩
theorem turn_ev (A : Option Addr) (c : Nat) (S : Aside0 (St B w W L)) (hsp : Spot L (GAs (x :: l)) F) (hn : x.n < 1000000) (hs : s.size ≤ maxLen) (hCN : ∀ W', W.grownBy W' (some x.bm) → Kd.C Kd.string W' A xs.length xs) (hsz : ∀ x ∈ xs, x.size ≤ maxLen) (hx : xs.length ≤ 1000000) :
  Calls Try.prog 17 #[.pointer (some ⟨x.g, 0, none⟩), .string s, .slice A xs.length c] W fun z W' => ∃ n' f', z = .returned (.int .i64 (errTurn x.G s xs)) ∧ n' ≤ x.n + 1 ∧ Aside0 (St B w W' (F (GAs (⟨x.g, x.bm, n', f', aftTurn x.G s xs⟩ :: l)))) := by
 refine (turn_all A c (gr_at S hsp) (far_at S hsp) hn hs hCN hsz hx).mono ?_
 rintro z W' ⟨rfl, n', f', C⟩
 exact ⟨n', f', rfl, C.cnt, ga_chg S hsp C⟩
theorem remove_ev (S : Aside0 (St B w W L)) (hsp : Spot L (GAs (x :: l)) F) (hs : s.size ≤ maxLen) :
  Calls Try.prog 22 #[.pointer (some ⟨x.g, 0, none⟩), .string s] W fun z W' => ∃ n' f', z = .returned (.int .i64 (errRem x.G s)) ∧ n' ≤ x.n + 1 ∧ Aside0 (St B w W' (F (GAs (⟨x.g, x.bm, n', f', aftRem x.G s⟩ :: l)))) := by
 refine (remove_all (gr_at S hsp) (far_at S hsp) hs).mono ?_
 rintro z W' ⟨rfl, n', f', C⟩
 exact ⟨n', f', rfl, C.cnt, ga_chg S hsp C⟩
theorem order_ev (S : Aside0 (St B w W L)) (hsp : Spot L (GAs (x :: l)) F) :
  Calls Try.prog 13 #[.pointer (some ⟨x.g, 0, none⟩)] W fun z W' => ∃ A c, z = .returned (.slice A (order x.G).length c) ∧ Aside0 (St B w W' (Own Kd.string 9 A c (order x.G) :: L)) := by
 refine (order_calls x.g x.bm x.n x.f x.G W (gr_at S hsp)).mono ?_
 rintro z W' ⟨A, c, rfl, h1, h2⟩
 exact ⟨A, c, rfl, add_own S h1 h2⟩
theorem deps_ev (S : Aside0 (St B w W L)) (hsp : Spot L (GAs (x :: l)) F) (hs : s.size ≤ maxLen) :
  Calls Try.prog 14 #[.pointer (some ⟨x.g, 0, none⟩), .string s] W fun z W' => ∃ A c, z = .returned (.slice A (depsOf x.G s).length c) ∧ Aside0 (St B w W' (Own Kd.string 9 A c (depsOf x.G s) :: L)) := by
 refine (deps_calls x.g x.bm x.n x.f x.G s W (gr_at S hsp) hs).mono ?_
 rintro z W' ⟨A, c, rfl, h1, h2⟩
 exact ⟨A, c, rfl, add_own S h1 h2⟩
theorem dependents_ev (S : Aside0 (St B w W L)) (hsp : Spot L (GAs (x :: l)) F) (hs : s.size ≤ maxLen) :
  Calls Try.prog 23 #[.pointer (some ⟨x.g, 0, none⟩), .string s] W fun z W' => ∃ A c, z = .returned (.slice A (dependents x.G s).length c) ∧ Aside0 (St B w W' (Own Kd.string 9 A c (dependents x.G s) :: L)) := by
 refine (dependents_calls x.g x.bm x.n x.f x.G s W (gr_at S hsp) hs).mono ?_
 rintro z W' ⟨A, c, rfl, h1, h2⟩
 exact ⟨A, c, rfl, add_own S h1 h2⟩
theorem has_ev (S : Aside0 (St B w W L)) (hsp : Spot L (GAs (x :: l)) F) (hs : s.size ≤ maxLen) :
  Calls Try.prog 15 #[.pointer (some ⟨x.g, 0, none⟩), .string s] W fun z W' => z = .returned (.bool (decide (s ∈ names x.G))) ∧ Aside0 (St B w W' L) := by
 refine (has2_calls (gr_at S hsp) s hs).mono ?_
 rintro z W' ⟨rfl, rfl⟩
 exact ⟨rfl, S⟩
theorem reaches_ev (S : Aside0 (St B w W L)) (hsp : Spot L (GAs (x :: l)) F) (hs : s.size ≤ maxLen) {b : ByteArray} (hb : b.size ≤ maxLen) :
  Calls Try.prog 16 #[.pointer (some ⟨x.g, 0, none⟩), .string s, .string b] W fun z W' => z = .returned (.bool (decide (s ∈ names x.G) && (decide (b ∈ names x.G) && decide (b ∈ reached x.G s)))) ∧ Aside0 (St B w W' L) := by
 refine (reaches_calls x.g x.bm x.n x.f x.G s b W (gr_at S hsp) hs hb).mono ?_
 rintro z W' ⟨rfl, h1⟩
 exact ⟨rfl, ⟨S.out.keep h1⟩⟩
/-- a fork stands beside -/
theorem fork_ev (S : Aside0 (St B w W L)) (hsp : Spot L (GAs (x :: l)) F) :
  Calls Try.prog 20 #[.pointer (some ⟨x.g, 0, none⟩)] W fun z W' => ∃ g2 bm2, z = .returned (.pointer (some ⟨g2, 0, none⟩)) ∧ Aside0 (St B w W' (F (GAs (⟨g2, bm2, x.n, x.f, x.G⟩ :: x :: l)))) := by
 refine (fork_calls x.g x.bm x.n x.f x.G W (gr_at S hsp)).mono ?_
 rintro z W' ⟨g2, bm2, rfl, h1, h2, h3, h4⟩
 have hD := gds_at S hsp
 refine ⟨g2, bm2, rfl, ⟨turn_at S.out hsp h4.os h4.tape h4.output h4.size (fun k hk _ => h4.block k hk) (GAs.mk ⟨fun y hy => ?_, fun y hy z hz => ?_, ?_⟩) (fun k hk => ?_)⟩⟩
 ·rcases List.mem_cons.1 hy with rfl | hy
  ·exact h3
  ·exact Gr.below (hD.gr y hy) h4
 ·have hz1 : (z.g = g2 ∧ z.f = x.f) ∨ z ∈ x :: l := (List.mem_cons.1 hz).imp_left (fun e => by subst e; exact ⟨rfl, rfl⟩)
  have oldlt : ∀ z ∈ x :: l, ∀ k, z.foot k → k < W.heap.size := fun z hz k hk => Gd.at_lt (hD.gr z hz) hk
  rcases List.mem_cons.1 hy with rfl | hy
  ·rcases hz1 with ⟨e1, e2⟩ | hz
   ·rw [e1, e2]
    exact ⟨fun s c hs => by have h5 := oldlt x (by simp) c (.inr (.inr ⟨s, hs⟩)); show c ≠ bm2; omega, fun e => h3.ne e.symm⟩
   ·exact ⟨fun s c hs => by have h5 := oldlt z hz c (.inr (.inr ⟨s, hs⟩)); show c ≠ bm2; omega, fun e => by have h5 := oldlt z hz z.g (.inl rfl); have h6 : bm2 = z.g := e; omega⟩
  ·rcases hz1 with ⟨e1, e2⟩ | hz
   ·rw [e1, e2]
    exact ⟨(hD.far y hy x (by simp)).1, fun e => by have h5 := oldlt y hy y.bm (.inr (.inl rfl)); omega⟩
   ·exact hD.far y hy z hz
 ·refine List.pairwise_cons.2 ⟨fun y hy e => ?_, hD.pair⟩
  have h5 := Gd.at_lt (hD.gr y hy) (k := y.bm) (.inr (.inl rfl))
  have h6 : bm2 = y.bm := e
  omega
 ·obtain ⟨y, hy, hk⟩ := GAs.foot_iff.1 hk
  rcases List.mem_cons.1 hy with rfl | hy
  ·rcases hk with h5 | h5 | ⟨s, hs⟩
   ·have h6 : k = g2 := h5
    omega
   ·have h6 : k = bm2 := h5
    omega
   ·exact .inl (GAs.foot_iff.2 ⟨x, by simp, .inr (.inr ⟨s, hs⟩)⟩)
  ·exact .inl (GAs.foot_iff.2 ⟨y, hy, hk⟩)
theorem ga_drop (S : Aside0 (St B w W L)) (hsp : Spot L (GAs (x :: l)) F) : Aside0 (St B w W (F (GAs l))) := by
 have hD := gds_at S hsp
 exact ⟨swap_at S.out hsp (GAs.mk ⟨fun y hy => hD.gr y (List.mem_cons_of_mem _ hy), fun y hy z hz => hD.far y (List.mem_cons_of_mem _ hy) z (List.mem_cons_of_mem _ hz), (List.pairwise_cons.1 hD.pair).2⟩) (fun k hk => by
  obtain ⟨y, hy, h1⟩ := GAs.foot_iff.1 hk
  exact GAs.foot_iff.2 ⟨y, List.mem_cons_of_mem _ hy, h1⟩)⟩
variable {D : Nat → Prop} {Ar A : Option Addr} {cr c : Nat} {kind : Int}
/-- what a call leaves -/
def aft (G : List S73) (kind : Int) (s : ByteArray) (xs : List ByteArray) : List S73 :=
 if (Int.tmod kind 4 == 2) = true then aftRem G s else if (Int.tmod kind 4 == 3) = true then aftTurn G s xs else aftAdd G s xs
theorem do_ev (S : Aside0 (St w.heap.size w W (GAs (x :: l) :: View k73 73 D (.slice Ar x.G.length cr) x.G :: L))) (hn : x.n < 1000000) (hl : x.G.length < 1000) (hs : s.size ≤ maxLen) (hC : Kd.C Kd.string w A xs.length xs) (hxc : xs.length ≤ c) (hsz : ∀ x ∈ xs, x.size ≤ maxLen) (hx : xs.length ≤ 1000) :
  Calls Try.prog 11 #[.pointer (some ⟨x.g, 0, none⟩), .agg #[.slice Ar x.G.length cr], .agg #[.int .u8 kind, .string s, .slice A xs.length c]] W fun z W' => ∃ n' f' D' A' c', z = .returned (.tuple #[.agg #[.slice A' (aft x.G kind s xs).length c'], .bool true]) ∧ n' ≤ x.n + 1 ∧
   Aside0 (St w.heap.size w W' (GAs (⟨x.g, x.bm, n', f', aft x.G kind s xs⟩ :: l) :: View k73 73 D' (.slice A' (aft x.G kind s xs).length c') (aft x.G kind s xs) :: L)) := by
 have h1 : Spot (GAs (x :: l) :: View k73 73 D (.slice Ar x.G.length cr) x.G :: L) (GAs (x :: l)) _ := .here _ _
 have h2 : Spot (GAs (x :: l) :: View k73 73 D (.slice Ar x.G.length cr) x.G :: L) (View k73 73 D (.slice Ar x.G.length cr) x.G) _ := .there _ (.here _ _)
 have hV := pred_at S.out h2
 have hap : Apart (View k73 73 D (.slice Ar x.G.length cr) x.G) (GAs (x :: l)) := fun k hk1 hk2 => (List.pairwise_cons.1 S.out.apart).1 _ (by simp) k hk2 hk1
 have hP : ∀ k, D k → ¬ k = x.bm ∧ k < W.heap.size ∧ ∀ s, x.f s ≠ some k := fun k hk =>
  ⟨fun e => hap k (View.at hk) (GAs.foot_iff.2 ⟨x, by simp, .inr (.inl e)⟩), View.lt' hV k hk, fun s hs => hap k (View.at hk) (GAs.foot_iff.2 ⟨x, by simp, .inr (.inr ⟨s, hs⟩)⟩)⟩
 have hPg : ∀ k, D k → ∀ y ∈ x :: l, ¬ y.foot k := fun k hk y hy hf => hap k (View.at hk) (GAs.foot_iff.2 ⟨y, hy, hf⟩)
 have hcalls : Calls Try.prog 11 #[.pointer (some ⟨x.g, 0, none⟩), .agg #[.slice Ar x.G.length cr], .agg #[.int .u8 kind, .string s, .slice A xs.length c]] W fun z w' => ∃ v, z = .returned (.tuple #[.agg #[v], .bool true]) ∧ ∃ n' f' D', Did W w' x.g x.bm x.n x.f (aft x.G kind s xs) D n' f' D' v := by
  unfold aft
  by_cases hk : (Int.tmod kind 4 == 2) = true
  ·rw [if_pos hk]
   exact do_remove x.g x.bm x.n x.f x.G D Ar cr kind s A c xs W (gr_at S h1) (far_at S h1) hn hl (View.v hV _) hP hs (old_far S h1 hC) hxc hsz hx hk
  ·rw [if_neg hk]
   by_cases hk3 : (Int.tmod kind 4 == 3) = true
   ·rw [if_pos hk3]
    exact do_turn x.g x.bm x.n x.f x.G D Ar cr kind s A c xs W (gr_at S h1) (far_at S h1) hn hl (View.v hV _) hP hs (old_far S h1 hC) hxc hsz hx (by simpa using hk) hk3
   ·rw [if_neg hk3]
    exact do_add x.g x.bm x.n x.f x.G D Ar cr kind s A c xs W (gr_at S h1) (far_at S h1) hn hl (View.v hV _) hP hs (old_far S h1 hC) hxc hsz hx (by simpa using hk) (by simpa using hk3)
 refine hcalls.mono ?_
 rintro z W' ⟨v, rfl, n', f', D', d⟩
 obtain ⟨A', c', rfl⟩ := Kd.V_slice d.view
 refine ⟨n', f', fun k => D' k ∧ k < W'.heap.size, A', c', rfl, d.cnt, ⟨?_⟩⟩
 have hG := (turn_at S.out h1 d.grown.os d.grown.tape d.grown.output d.grown.size (fun k hk hn => d.grown.block k hk (fun e => hn (GAs.foot_iff.2 ⟨x, by simp, .inr (.inl (Option.some.inj e))⟩))) (GAs.mk (gds_chg (gds_at S h1) d.grown d.gr d.new)) (fun k hk => foot_chg d.new hk))
 have hrest := hG.drop (L' := GAs (⟨x.g, x.bm, n', f', aft x.G kind s xs⟩ :: l) :: L) ((List.sublist_cons_self _ _).cons_cons _)
 have hLlt : ∀ b ∈ L, ∀ k, b.foot k → k < W.heap.size := fun b hb k hk => b.lt (S.out.holds b (by simp [hb])) k hk
 have hLD : ∀ b ∈ L, ∀ k, b.foot k → ¬ D k := fun b hb k hk hd => by
  have h5 := (List.pairwise_cons.1 S.out.apart).2
  exact (List.pairwise_cons.1 h5).1 b hb k (View.at hd) hk
 have hsw := (hrest.cons (View k73 73 (fun k => D' k ∧ k < W'.heap.size) (.slice A' (aft x.G kind s xs).length c') (aft x.G kind s xs)) (View.mk d.view) (fun k hk => ?_) (fun b hb k hk1 hk2 => ?_))
 ·exact hsw.swap (List.Perm.swap _ _ _)
 ·rcases (d.data k (View.foot hk).1).1 with h5 | h5
  ·exact new_at S.out h2 k (View.at h5)
  ·exact Nat.le_trans S.out.leW h5
 ·have h5 := d.data k (View.foot hk1).1
  rcases List.mem_cons.1 hb with rfl | hb
  ·obtain ⟨y, hy, h6⟩ := GAs.foot_iff.1 hk2
   rcases List.mem_cons.1 hy with rfl | hy
   ·rcases h6 with h6 | h6 | ⟨s', h6⟩
    ·rcases h5.1 with h7 | h7
     ·exact hPg k h7 x (by simp) (.inl h6)
     ·have h8 : x.g < W.heap.size := (gr_at S h1).lt
      have h9 : k = x.g := h6
      omega
    ·rcases h5.1 with h7 | h7
     ·exact hPg k h7 x (by simp) (.inr (.inl h6))
     ·have h8 : x.bm < W.heap.size := (gr_at S h1).map.lt
      have h9 : k = x.bm := h6
      omega
    ·exact h5.2.2 s' h6
   ·rcases h5.1 with h7 | h7
    ·exact hPg k h7 y (List.mem_cons_of_mem _ hy) h6
    ·have h8 := Gd.at_lt ((gds_at S h1).gr y (List.mem_cons_of_mem _ hy)) h6
     omega
  ·rcases h5.1 with h7 | h7
   ·exact hLD b hb k hk2 h7
   ·have h8 := hLlt b hb k hk2
    omega
theorem same_ev {F2 : Asn → List Asn} (S : Aside0 (St B w W L)) (h1 : Spot L (GAs (x :: l)) F) (h2 : Spot L (View k73 73 D (.slice Ar x.G.length cr) x.G) F2) {a b : ByteArray} (ha : a.size ≤ maxLen) (hb : b.size ≤ maxLen) :
  Calls Try.prog 12 #[.pointer (some ⟨x.g, 0, none⟩), .agg #[.slice Ar x.G.length cr], .string a, .string b] W fun z W' => z = .returned (.bool true) ∧ Aside0 (St B w W' L) := by
 refine (same_calls x.g x.bm x.n x.f x.G D Ar cr a b W (gr_at S h1) (View.v (pred_at S.out h2) _) ha hb).mono ?_
 rintro z W' ⟨rfl, h3⟩
 exact ⟨rfl, ⟨S.out.keep h3⟩⟩
end
end Go.Proofs.Ytaomemhnjpemiaa.Mp
/- Three nodes, reckoned. -/
namespace Go.Proofs.Ytaomemhnjpemiaa.Mp
open Go Go.RowKit Go.Proofs.Ytaomemhnjpemiaa.PB Go.Proofs.Ytaomemhnjpemiaa.Doc
set_option linter.unusedVariables false
set_option linter.unusedSimpArgs false
abbrev nA : ByteArray := ⟨#[97]⟩
abbrev nB : ByteArray := ⟨#[98]⟩
abbrev nC : ByteArray := ⟨#[99]⟩
def G1 : List S73 := [⟨nA, []⟩]
def G2 : List S73 := [⟨nA, []⟩, ⟨nB, [nA]⟩]
def G3 : List S73 := [⟨nA, []⟩, ⟨nB, [nA]⟩, ⟨nC, [nA, nB]⟩]
theorem lAB : less nA nB = true := by unfold less; rw [ByteArray.toList_eq, ByteArray.toList_eq]; decide
theorem lAC : less nA nC = true := by unfold less; rw [ByteArray.toList_eq, ByteArray.toList_eq]; decide
theorem lBC : less nB nC = true := by unfold less; rw [ByteArray.toList_eq, ByteArray.toList_eq]; decide
theorem lBA : less nB nA = false := less_asymm lAB
theorem neAB : nA ≠ nB := by decide
theorem neAC : nA ≠ nC := by decide
theorem neBC : nB ≠ nC := by decide
theorem e1 : errAdd [] nA [] = 0 := by simp [errAdd, names]
theorem a1 : aftAdd [] nA [] = G1 := by simp [aftAdd, names, with_, Doc.setOf, G1]
theorem e2 : errAdd G1 nB [nA] = 0 := by simp [errAdd, names, G1, neAB.symm]
theorem a2 : aftAdd G1 nB [nA] = G2 := by simp [aftAdd, names, with_, Doc.setOf, setIn, insAt, G1, G2, neAB.symm, lAB]
theorem e3 : errAdd G2 nC [nB, nA] = 0 := by simp [errAdd, names, G2, neAC.symm, neBC.symm]
theorem a3 : aftAdd G2 nC [nB, nA] = G3 := by simp [aftAdd, names, with_, Doc.setOf, setIn, insAt, G2, G3, neAC.symm, neBC.symm, neAB, lAC, lBC, lBA]
theorem o3 : order G3 = [nA, nB, nC] := by simp [order, orderFrom, orderStep, G3, isReady, List.find?, neAB, neAC, neBC, neAB.symm, neAC.symm, neBC.symm]
theorem d3 : dependents G3 nA = [nB, nC] := by simp [dependents, names, G3]
theorem e4 : errRem G3 nA = 26 := by
 unfold errRem
 rw [d3, if_pos (by simp [names, G3])]
 simp
theorem a4 : aftRem G3 nA = G3 := by
 unfold aftRem
 rw [d3]
 simp
theorem deps3 : nA ∈ depsOf G3 nC := by simp [depsOf, G3, neAC, neBC]
theorem good3 : Doc.Good G3 := by
 have h1 : Doc.Good G1 := ⟨List.pairwise_singleton _ _, fun n hn => by
  rw [List.mem_singleton.1 hn]; exact ⟨List.Pairwise.nil, fun d hd => by cases hd⟩⟩
 have h2 : Doc.Good G2 := by
  have := h1.with_ ⟨nB, setOf [nA]⟩ (by simp [names, G1, neAB.symm]) (setOf_up _) (fun d hd => .inl (by rw [(List.mem_singleton.1 ((setOf_mem d [nA]).1 hd))]; simp [names, G1]))
  have e := a2
  unfold aftAdd at e
  rw [if_neg (by simp [names, G1, neAB.symm]), if_pos (by simp [names, G1])] at e
  rwa [e] at this
 have := h2.with_ ⟨nC, setOf [nB, nA]⟩ (by simp [names, G2, neAC.symm, neBC.symm]) (setOf_up _) (fun d hd => .inl (by
  have h3 := (setOf_mem d [nB, nA]).1 hd
  simp only [List.mem_cons, List.not_mem_nil, or_false] at h3
  rcases h3 with rfl | rfl <;> simp [names, G2]))
 have e := a3
 unfold aftAdd at e
 rw [if_neg (by simp [names, G2, neAC.symm, neBC.symm]), if_pos (by simp [names, G2])] at e
 rwa [e] at this
theorem rounds3 : rounds_ G3 nA nC = true := by
 unfold rounds_
 rw [decide_eq_true ((reached_iff good3 nC nA).2 (.one deps3))]
 simp [names, G3]
theorem e5 : errTurn G3 nA [nC] = 24 := by
 unfold errTurn
 rw [if_pos (by simp [names, G3]), if_pos (by simp [names, G3]), if_pos (by simp [rounds3])]
theorem a5 : aftTurn G3 nA [nC] = G3 := by
 unfold aftTurn
 rw [if_pos (by simp [names, G3]), if_pos (by simp [names, G3]), if_pos (by simp [rounds3])]
end Go.Proofs.Ytaomemhnjpemiaa.Mp
/- What every right program tells of three. -/
namespace Go.Proofs.Ytaomemhnjpemiaa.Mp
open Go Go.Maps Go.RowKit Go.Proofs.Ytaomemhnjpemiaa.PB Go.Proofs.Ytaomemhnjpemiaa.Doc Go.Proofs.Ytaomemhnjpemiaa.Sep Go.Proofs.Ytaomemhnjpemiaa.Ev Go.Proofs.Ytaomemhnjpemiaa.Ty Go.Proofs.YtaomemhnjpemiaaW.PrintWords Go.Proofs.YtaomemhnjpemiaaW.PrintLast Go.Proofs.YtaomemhnjpemiaaW.PrintMore
set_option linter.unusedVariables false
set_option linter.unusedSimpArgs false

section
variable {α : Type} {P : Program} {ops : Array Oper} {rest : List Oper} {o : Oper} {a : Act} {Q : Exit → Act → World → Prop} {B : Nat} {w W : World} {L : List Asn} {F : Asn → List Asn} {enc : α → Value} {h1 : ∀ x, (enc x).oneCell' = true} {e : Nat}
theorem ev_litG (xs : List α) (S : Aside0 (St B w W L)) (hw : Region.wanted o (yielded ops a.tmps) = true) (N : Tmp) (hN : o.dst = some N)
  (hrun : (execOp a.eval o).run P W = .ok (.value (.slice (some ⟨W.heap.size, 0, none⟩) xs.length xs.length)) (W.alloc (.cells (xs.map enc).toArray e))) (hm : xs.length ≤ 9223372036854775807)
  (h : ∀ A c w1, Aside0 (St B w w1 (Own (Kd.scalar enc h1) e A c xs :: L)) → wpList P ops Q rest (a.put (some N) (.slice A xs.length c)) w1) : wpList P ops Q (o :: rest) a W := by
 refine wpList_step fun K hK => ?_
 rw [if_pos hw]
 unfold Oper.wp
 simp only [hrun]
 refine hK _ _ ?_
 rw [hN]
 have hR := lit_R (d := Kd.scalar enc h1) (e := e) (W := W) rfl (reps_scalar W _ _ xs) hm
 exact h _ _ _ ⟨St.add S.out ((Below.refl _ _).alloc (Nat.le_refl _) _) _ (Own.mk rfl hR) (Own.new hR)⟩
end
theorem few_b {xs : List ByteArray} (h : ∀ x ∈ xs, x = nA ∨ x = nB ∨ x = nC) : ∀ x ∈ xs, x.size ≤ maxLen := fun x hx => by
 rcases h x hx with rfl | rfl | rfl <;> (unfold maxLen; decide)
section
variable {B : Nat} {w W : World} {L : List Asn} {F : Asn → List Asn} {g bm n : Nat} {f : ByteArray → Option Nat} {l : List Gd} {A : Option Addr} {c : Nat}
theorem sA : nA.size ≤ maxLen := by unfold maxLen; decide
theorem sB : nB.size ≤ maxLen := by unfold maxLen; decide
theorem sC : nC.size ≤ maxLen := by unfold maxLen; decide
theorem aw1 (S : Aside0 (St B w W L)) (hsp : Spot L (GAs (⟨g, bm, n, f, []⟩ :: l)) F) (hn : n < 1000) :
  Calls Try.prog 21 #[.pointer (some ⟨g, 0, none⟩), .string nA, .slice none 0 0] W fun z W' => ∃ n' f', z = .returned (.int .i64 0) ∧ n' ≤ n + 1 ∧ Aside0 (St B w W' (F (GAs (⟨g, bm, n', f', G1⟩ :: l)))) := by
 have h := add_ev (x := ⟨g, bm, n, f, []⟩) (s := nA) (xs := []) none 0 S hsp (by show n < _; omega) (by simp) sA (fun _ _ => Kd.C_nil _ _) (fun _ h => by cases h) (by simp)
 simp only [e1, a1] at h
 exact h
theorem aw2 {F2 : Asn → List Asn} (S : Aside0 (St B w W L)) (hsp : Spot L (GAs (⟨g, bm, n, f, G1⟩ :: l)) F) (h2 : Spot L (Own Kd.string 9 A c [nA]) F2) (ht : Two L (Own Kd.string 9 A c [nA]) (GAs (⟨g, bm, n, f, G1⟩ :: l))) (hn : n < 1000) :
  Calls Try.prog 21 #[.pointer (some ⟨g, 0, none⟩), .string nB, .slice A 1 c] W fun z W' => ∃ n' f', z = .returned (.int .i64 0) ∧ n' ≤ n + 1 ∧ Aside0 (St B w W' (F (GAs (⟨g, bm, n', f', G2⟩ :: l)))) := by
 have h := add_ev (x := ⟨g, bm, n, f, G1⟩) (s := nB) (xs := [nA]) A c S hsp (by show n < _; omega) (by simp [G1]) sB (own_far S h2 ht) (few_b (by simp)) (by simp)
 simp only [e2, a2] at h
 exact h
theorem aw3 {F2 : Asn → List Asn} (S : Aside0 (St B w W L)) (hsp : Spot L (GAs (⟨g, bm, n, f, G2⟩ :: l)) F) (h2 : Spot L (Own Kd.string 9 A c [nB, nA]) F2) (ht : Two L (Own Kd.string 9 A c [nB, nA]) (GAs (⟨g, bm, n, f, G2⟩ :: l))) (hn : n < 1000) :
  Calls Try.prog 21 #[.pointer (some ⟨g, 0, none⟩), .string nC, .slice A 2 c] W fun z W' => ∃ n' f', z = .returned (.int .i64 0) ∧ n' ≤ n + 1 ∧ Aside0 (St B w W' (F (GAs (⟨g, bm, n', f', G3⟩ :: l)))) := by
 have h := add_ev (x := ⟨g, bm, n, f, G2⟩) (s := nC) (xs := [nB, nA]) A c S hsp (by show n < _; omega) (by simp [G2]) sC (own_far S h2 ht) (few_b (by simp)) (by simp)
 simp only [e3, a3] at h
 exact h
theorem aw4 (S : Aside0 (St B w W L)) (hsp : Spot L (GAs (⟨g, bm, n, f, G3⟩ :: l)) F) :
  Calls Try.prog 13 #[.pointer (some ⟨g, 0, none⟩)] W fun z W' => ∃ A c, z = .returned (.slice A 3 c) ∧ Aside0 (St B w W' (Own Kd.string 9 A c [nA, nB, nC] :: L)) := by
 have h := order_ev (x := ⟨g, bm, n, f, G3⟩) S hsp
 simp only [o3] at h
 exact h
theorem aw5 (S : Aside0 (St B w W L)) (hsp : Spot L (GAs (⟨g, bm, n, f, G3⟩ :: l)) F) :
  Calls Try.prog 23 #[.pointer (some ⟨g, 0, none⟩), .string nA] W fun z W' => ∃ A c, z = .returned (.slice A 2 c) ∧ Aside0 (St B w W' (Own Kd.string 9 A c [nB, nC] :: L)) := by
 have h := dependents_ev (x := ⟨g, bm, n, f, G3⟩) (s := nA) S hsp sA
 simp only [d3] at h
 exact h
theorem aw6 (S : Aside0 (St B w W L)) (hsp : Spot L (GAs (⟨g, bm, n, f, G3⟩ :: l)) F) (hn : n < 1000) :
  Calls Try.prog 22 #[.pointer (some ⟨g, 0, none⟩), .string nA] W fun z W' => ∃ n' f', z = .returned (.int .i64 26) ∧ n' ≤ n + 1 ∧ Aside0 (St B w W' (F (GAs (⟨g, bm, n', f', G3⟩ :: l)))) := by
 have h := remove_ev (x := ⟨g, bm, n, f, G3⟩) (s := nA) S hsp sA
 simp only [e4, a4] at h
 exact h
theorem aw7 {F2 : Asn → List Asn} (S : Aside0 (St B w W L)) (hsp : Spot L (GAs (⟨g, bm, n, f, G3⟩ :: l)) F) (h2 : Spot L (Own Kd.string 9 A c [nC]) F2) (ht : Two L (Own Kd.string 9 A c [nC]) (GAs (⟨g, bm, n, f, G3⟩ :: l))) (hn : n < 1000) :
  Calls Try.prog 17 #[.pointer (some ⟨g, 0, none⟩), .string nA, .slice A 1 c] W fun z W' => ∃ n' f', z = .returned (.int .i64 24) ∧ n' ≤ n + 1 ∧ Aside0 (St B w W' (F (GAs (⟨g, bm, n', f', G3⟩ :: l)))) := by
 have h := turn_ev (x := ⟨g, bm, n, f, G3⟩) (s := nA) (xs := [nC]) A c S hsp (by show n < _; omega) sA (own_far S h2 ht) (few_b (by simp)) (by simp)
 simp only [e5, a5] at h
 exact h
theorem aw_same {F2 : Asn → List Asn} {A2 : Option Addr} {c2 : Nat} {xs : List ByteArray} {m : Nat} (hm : xs.length = m) (S : Aside0 (St B w W L)) (h1 : Spot L (Own Kd.string 9 A c xs) F) (h2 : Spot L (Own Kd.string 9 A2 c2 xs) F2) (hl : xs.length ≤ 1000) :
  Calls Try.prog 18 #[.slice A m c, .slice A2 m c2] W fun z W' => z = .returned (.bool true) ∧ Aside0 (St B w W' L) := by
 subst hm
 refine (budwoodref14_Same.calls _ A c xs A2 c2 xs true W (Own.reads (pred_at S.out h1)) (Own.cap (pred_at S.out h1)) (Own.reads (pred_at S.out h2)) (Own.cap (pred_at S.out h2)) (same_t xs (by omega))).mono ?_
 rintro z W' ⟨rfl, ⟨m, rfl⟩⟩
 exact ⟨rfl, ⟨S.out.drewN m⟩⟩
end
set_option maxRecDepth 100000 in
set_option maxHeartbeats 16000000 in
theorem awake_calls (w : World) : Calls Try.prog 9 #[] w fun z w' => z = .returned (.bool true) ∧ Below w.heap.size w w' := by
 have S := Aside0.mk (St.start w)
 go_enter Try.func9, Try.ntmps9
 go_wp2_with (first | ((with_reducible refine gate_dst (N := 12) rfl ?_); refine ev_litG (enc := Value.string) (h1 := fun _ => rfl) (e := 9) ([nA] : List ByteArray) S ?_ 12 rfl ?hrun (by simp) ?_; (case hrun => first | (go_simp; done) | (go_simp; rfl)); (first | exact want0 rfl | exact want1 rfl rfl rfl rfl); intro A12 c12 w_ S_; clear S; have S := S_; clear S_) | ((with_reducible refine gate_dst (N := 18) rfl ?_); refine ev_litG (enc := Value.string) (h1 := fun _ => rfl) (e := 9) ([nB, nA] : List ByteArray) S ?_ 18 rfl ?hrun (by simp) ?_; (case hrun => first | (go_simp; done) | (go_simp; rfl)); (first | exact want0 rfl | exact want1 rfl rfl rfl rfl); intro A18 c18 w_ S_; clear S; have S := S_; clear S_) | ((with_reducible refine gate_dst (N := 24) rfl ?_); refine ev_litG (enc := Value.string) (h1 := fun _ => rfl) (e := 9) ([nA, nB, nC] : List ByteArray) S ?_ 24 rfl ?hrun (by simp) ?_; (case hrun => first | (go_simp; done) | (go_simp; rfl)); (first | exact want0 rfl | exact want1 rfl rfl rfl rfl); intro A24 c24 w_ S_; clear S; have S := S_; clear S_) | ((with_reducible refine gate_dst (N := 29) rfl ?_); refine ev_litG (enc := Value.string) (h1 := fun _ => rfl) (e := 9) ([nB, nC] : List ByteArray) S ?_ 29 rfl ?hrun (by simp) ?_; (case hrun => first | (go_simp; done) | (go_simp; rfl)); (first | exact want0 rfl | exact want1 rfl rfl rfl rfl); intro A29 c29 w_ S_; clear S; have S := S_; clear S_) | ((with_reducible refine gate_dst (N := 39) rfl ?_); refine ev_litG (enc := Value.string) (h1 := fun _ => rfl) (e := 9) ([nC] : List ByteArray) S ?_ 39 rfl ?hrun (by simp) ?_; (case hrun => first | (go_simp; done) | (go_simp; rfl)); (first | exact want0 rfl | exact want1 rfl rfl rfl rfl); intro A39 c39 w_ S_; clear S; have S := S_; clear S_) | (go_at_call 10; have c_ := new_ev S; (with_reducible refine c_.mono ?_); clear c_; rintro z_ w_ ⟨g, bm, rfl, S_⟩; clear S; have S := S_; clear S_) | (go_at_call 21; have c_ := aw1 S (by repeat (first | exact Spot.here _ _ | apply Spot.there)) (by omega); (with_reducible refine c_.mono ?_); clear c_; rintro z_ w_ ⟨n1, f1, rfl, hn1, S_⟩; clear S; have S := S_; clear S_) | (go_at_call 21; have c_ := aw2 (A := A12) (c := c12) S (by repeat (first | exact Spot.here _ _ | apply Spot.there)) (by repeat (first | exact Spot.here _ _ | apply Spot.there)) (by repeat (first | exact Two.first (by repeat (first | exact Spot.here _ _ | apply Spot.there)) | exact Two.second (by repeat (first | exact Spot.here _ _ | apply Spot.there)) | apply Two.there)) (by omega); (with_reducible refine c_.mono ?_); clear c_; rintro z_ w_ ⟨n2, f2, rfl, hn2, S_⟩; clear S; have S := S_; clear S_) | (go_at_call 21; have c_ := aw3 (A := A18) (c := c18) S (by repeat (first | exact Spot.here _ _ | apply Spot.there)) (by repeat (first | exact Spot.here _ _ | apply Spot.there)) (by repeat (first | exact Two.first (by repeat (first | exact Spot.here _ _ | apply Spot.there)) | exact Two.second (by repeat (first | exact Spot.here _ _ | apply Spot.there)) | apply Two.there)) (by omega); (with_reducible refine c_.mono ?_); clear c_; rintro z_ w_ ⟨n3, f3, rfl, hn3, S_⟩; clear S; have S := S_; clear S_) | (go_at_call 13; have c_ := aw4 S (by repeat (first | exact Spot.here _ _ | apply Spot.there)); (with_reducible refine c_.mono ?_); clear c_; rintro z_ w_ ⟨A23, c23, rfl, S_⟩; clear S; have S := S_; clear S_) | (go_at_call 18; have c_ := aw_same (A := A23) (c := c23) (A2 := A24) (c2 := c24) (xs := [nA, nB, nC]) (m := 3) rfl S (by repeat (first | exact Spot.here _ _ | apply Spot.there)) (by repeat (first | exact Spot.here _ _ | apply Spot.there)) (by simp); (with_reducible refine c_.mono ?_); clear c_; rintro z_ w_ ⟨rfl, S_⟩; clear S; have S := S_; clear S_) | (go_at_call 23; have c_ := aw5 S (by repeat (first | exact Spot.here _ _ | apply Spot.there)); (with_reducible refine c_.mono ?_); clear c_; rintro z_ w_ ⟨A28, c28, rfl, S_⟩; clear S; have S := S_; clear S_) | (go_at_call 18; have c_ := aw_same (A := A28) (c := c28) (A2 := A29) (c2 := c29) (xs := [nB, nC]) (m := 2) rfl S (by repeat (first | exact Spot.here _ _ | apply Spot.there)) (by repeat (first | exact Spot.here _ _ | apply Spot.there)) (by simp); (with_reducible refine c_.mono ?_); clear c_; rintro z_ w_ ⟨rfl, S_⟩; clear S; have S := S_; clear S_) | (go_at_call 22; have c_ := aw6 S (by repeat (first | exact Spot.here _ _ | apply Spot.there)) (by omega); (with_reducible refine c_.mono ?_); clear c_; rintro z_ w_ ⟨n4, f4, rfl, hn4, S_⟩; clear S; have S := S_; clear S_) | (go_at_call 17; have c_ := aw7 (A := A39) (c := c39) S (by repeat (first | exact Spot.here _ _ | apply Spot.there)) (by repeat (first | exact Spot.here _ _ | apply Spot.there)) (by repeat (first | exact Two.first (by repeat (first | exact Spot.here _ _ | apply Spot.there)) | exact Two.second (by repeat (first | exact Spot.here _ _ | apply Spot.there)) | apply Two.there)) (by omega); (with_reducible refine c_.mono ?_); clear c_; rintro z_ w_ ⟨n5, f5, rfl, hn5, S_⟩; clear S; have S := S_; clear S_) | go_in)
 go_ret
 exact ⟨rfl, S.out.below⟩
end Go.Proofs.Ytaomemhnjpemiaa.Mp
/- Calls are few; what a call leaves is one node more at most. -/
namespace Go.Proofs.Ytaomemhnjpemiaa.Mp
open Go Go.Maps Go.RowKit Go.Proofs.Ytaomemhnjpemiaa.PB Go.Proofs.Ytaomemhnjpemiaa.Doc Go.Proofs.Ytaomemhnjpemiaa.Sep Go.Proofs.Ytaomemhnjpemiaa.Ev Go.Proofs.Ytaomemhnjpemiaa.Ty Go.Proofs.YtaomemhnjpemiaaW.PrintWords Go.Proofs.YtaomemhnjpemiaaW.PrintLast Go.Proofs.YtaomemhnjpemiaaW.PrintMore
set_option linter.unusedVariables false
set_option linter.unusedSimpArgs false

theorem few_l (l : List S34) (hl : l.length ≤ 24) : ∀ (d i n : Nat), l.length = i + d → n ≤ 101 * i → ∃ b, budwoodlaw14_few.l0 (d + 1) l (n : Int) (i : Int) = some b ∧ (b = true → n ≤ 100 ∧ ∀ x ∈ l.drop i, x.f2.length ≤ 100)
 | 0, i, n, h, hn => by
  refine ⟨_, by rw [budwoodlaw14_few.l0, if_neg (by omega)], fun hb => ⟨by have := of_decide_eq_true hb; omega, fun x hx => ?_⟩⟩
  rw [List.drop_eq_nil_of_le (by omega)] at hx; cases hx
 | d + 1, i, n, h, hn => by
  have hd : l.drop i = rd_T34 l (i : Int) :: l.drop (i + 1) := by
   rw [List.drop_eq_getElem_cons (by omega)]; congr 1; simp [rd_T34, show i < l.length by omega]
  have hm : mn ((rd_T34 l (i : Int)).f2.length : Int) 101 = ((min (rd_T34 l (i : Int)).f2.length 101 : Nat) : Int) := by unfold mn; split <;> omega
  have e1 : wrap64 ((n : Int) + mn ((rd_T34 l (i : Int)).f2.length : Int) 101) = ((n + min (rd_T34 l (i : Int)).f2.length 101 : Nat) : Int) := by rw [hm]; unfold wrap64; omega
  have e2 : wrap64 ((i : Int) + 1) = ((i + 1 : Nat) : Int) := w64 i (by omega)
  obtain ⟨b, h1, h2⟩ := few_l l hl d (i + 1) (n + min (rd_T34 l (i : Int)).f2.length 101) (by omega) (by omega)
  refine ⟨b, by rw [budwoodlaw14_few.l0, if_pos (by omega), if_pos (by omega), e1, e2]; exact h1, fun hb => ?_⟩
  obtain ⟨h3, h4⟩ := h2 hb
  refine ⟨by omega, fun x hx => ?_⟩
  rw [hd] at hx
  rcases List.mem_cons.1 hx with rfl | hx
  ·omega
  ·exact h4 x hx
theorem few_ok (l : List S34) : ∃ k b, budwoodlaw14_few.f k l = some b ∧ (b = true → l.length ≤ 24 ∧ ∀ x ∈ l, x.f2.length ≤ 100) := by
 by_cases h : (l.length : Int) > 24
 ·exact ⟨0, false, by rw [budwoodlaw14_few.f, if_pos h], fun h => by cases h⟩
 ·obtain ⟨b, h1, h2⟩ := few_l l (by omega) l.length 0 0 (by omega) (by omega)
  exact ⟨l.length + 1, b, by rw [budwoodlaw14_few.f, if_neg h]; exact h1, fun hb => ⟨by omega, by simpa using (h2 hb).2⟩⟩
theorem with_len (m : S73) (G : List S73) : (with_ m G).length = G.length + 1 := by
 have := names_len (with_ m G)
 rw [names_with, insAt_len, names_len] at this
 omega
theorem aft_len (G : List S73) (kind : Int) (s : ByteArray) (xs : List ByteArray) : (aft G kind s xs).length ≤ G.length + 1 := by
 have hw : (without G s).length ≤ G.length := List.length_filter_le _ _
 unfold aft aftRem aftTurn aftAdd turn
 repeat' split
 all_goals first | omega | (rw [with_len]; omega)
/-- a list of calls, with texts that Go's texts can be -/
def Ok34 (l : List S34) : Prop := ∀ x ∈ l, x.f1.size ≤ maxLen ∧ ∀ y ∈ x.f2, y.size ≤ maxLen
section
variable {B : Nat} {w W : World} {L : List Asn} {l : List Gd} {g : Nat} {cs : Array Value} {t : TypeId}
theorem start_sys (S : Aside0 (St B w W (Bk g cs t :: GAs l :: L))) : Aside0 (St B w W (GAs l :: View k73 73 (fun _ => False) (.slice none 0 0) [] :: Bk g cs t :: L)) := by
 have h1 := S.out.cons (View k73 73 (fun _ => False) (.slice none 0 0) []) (View.nil _ _ _) (fun k hk => (View.foot hk).elim) (fun b hb k hk _ => (View.foot hk).elim)
 exact ⟨h1.swap ((List.Perm.swap _ _ _).trans (((List.Perm.swap _ _ _).cons _).trans ((List.Perm.swap _ _ _).trans ((List.Perm.swap _ _ _).cons _))))⟩
end
theorem act_at {w : World} {A : Option Addr} {l : List S34} (h : Kd.C k34 w A l.length l) (i : Nat) (hi : i < l.length) : ∃ ad Ah ch, A = some ad ∧ Has w (ad.add (i * 3)) [.int .u8 (rd_T34 l (i : Int)).f0, .string (rd_T34 l (i : Int)).f1, .slice Ah (rd_T34 l (i : Int)).f2.length ch] ∧ (rd_T34 l (i : Int)).f2.length ≤ ch ∧ Kd.C Kd.string w Ah (rd_T34 l (i : Int)).f2.length (rd_T34 l (i : Int)).f2 ∧ rd_T34 l (i : Int) ∈ l := by
 obtain ⟨ad, cs, e, hK, hH⟩ := has_of h z34 i hi
 obtain ⟨Ah, ch, rfl, h1, h2⟩ := k34_open hK
 have e1 : rd_T34 l (i : Int) = l.getD i z34 := by simp [rd_T34]
 rw [e1]
 exact ⟨ad, Ah, ch, e, hH, h1, h2, by simp [hi]⟩
theorem has_cell {w : World} {ad : Addr} {i j : Nat} {vs : List Value} {v : Value} (h : Has w (ad.add (i * 3)) vs) (hj0 : j ≠ 0) (hj : vs[j]? = some v) : w.cell? ⟨(ad.add (i * 3)).block, (ad.add (i * 3)).off + j, none⟩ = some v := by
 have h1 := h j v hj
 have e : (ad.add (i * 3)).add j = ⟨(ad.add (i * 3)).block, (ad.add (i * 3)).off + j, none⟩ := by unfold Addr.add; split <;> simp_all
 rw [← e]; exact h1
end Go.Proofs.Ytaomemhnjpemiaa.Mp
