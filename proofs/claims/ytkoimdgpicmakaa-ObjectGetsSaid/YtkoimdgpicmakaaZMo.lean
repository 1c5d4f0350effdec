/- What every right program lays (awake). -/
import Derived.Test.YtkoimdgpicmakaaZIn
import Derived.RegionTactic
import Derived.BigRegion
namespace Go.Proofs.Ytkoimdgpicmakaa.Ob
open Go.Proofs.Ytkoimdgpicmakaa.Reader Go.Proofs.Ytkoimdgpicmakaa.Inv
open Go.RowKit Go.Proofs.Ytkoimdgpicmakaa.Sep Go.Proofs.YtkoimdgpicmakaaW.PrintWords Go.Proofs.YtkoimdgpicmakaaW.PrintLast Go.Proofs.Ytkoimdgpicmakaa.Wm Go.Proofs.Ytkoimdgpicmakaa.Ev Go.Proofs.Ytkoimdgpicmakaa.Ty Go.Proofs.Ytkoimdgpicmakaa.PB
set_option linter.unusedVariables false
set_option linter.unusedSimpArgs false

/-- A block of cells with some mark. -/
def Bm (g : Nat) (cs : Array Value) (t : TypeId) : Asn where
  foot k := k = g
  pred W := ∃ fr, W.heap[g]? = some (.cells cs t fr)
  move h hp := by
    obtain ⟨fr, h1⟩ := hp
    exact ⟨fr, (h g rfl).trans h1⟩
  lt hp k hk := by
    obtain ⟨fr, h1⟩ := hp
    subst hk
    exact (Array.getElem?_eq_some_iff.1 h1).1
theorem Bm.of {g : Nat} {cs : Array Value} {t : TypeId} {W : World} (h : ∃ fr, W.heap[g]? = some (.cells cs t fr)) : (Bm g cs t).pred W := h
theorem Bm.heap {g : Nat} {cs : Array Value} {t : TypeId} {W : World} (h : (Bm g cs t).pred W) : ∃ fr, W.heap[g]? = some (.cells cs t fr) := h
theorem Bm.foot_iff {g k : Nat} {cs : Array Value} {t : TypeId} : (Bm g cs t).foot k ↔ k = g := Iff.rfl
attribute [irreducible] Bm
theorem C_marked {g : Nat} {t : TypeId} {W : World} {xs : List Int} {cs : Array Value} (h : (Bm g cs t).pred W) (hc : cs = (xs.map (Value.int .u8)).toArray) (hm : xs.length ≤ 9223372036854775807) : Kd.C (Kd.int .u8) W (some ⟨g, 0, none⟩) xs.length xs := by
  subst hc
  obtain ⟨fr, hh⟩ := Bm.heap h
  refine ⟨rfl, hm, fun _ => ⟨_, rfl, fun j p hj => ⟨[.int .u8 p], rfl, rfl, fun i u hi => ?_⟩⟩⟩
  rcases i with _ | i
  · obtain rfl := Option.some.inj hi
    have e : (⟨g, 0, none⟩ : Addr).add (j * (Kd.int .u8).sz + 0) = ⟨g, j, none⟩ := by unfold Addr.add; simp [show (Kd.int .u8).sz = 1 from rfl]; omega
    rw [e]
    unfold World.cell?
    simp only [hh]
    simp [hj]
  · simp at hi
section
variable {ops : Array Oper} {rest : List Oper} {o : Oper} {a : Act} {Q : Exit → Act → World → Prop} {B : Nat} {w W : World} {L : List Asn} {F : Asn → List Asn}
theorem ev_conv {x : Operand} {g n c : Nat} {cs : Array Value} {t : TypeId} (S : Aside0 (St B w W L)) (hw : Region.wanted o (yielded ops a.tmps) = true) (N : Tmp) (hN : o.dst = some N) (ho : o.op = .convert 30 30 x) (hx : a.eval x = .slice (some ⟨g, 0, none⟩) n c) (hs : Spot L (Bk g cs t) F)
    (h : ∀ w1, Aside0 (St B w w1 (F (Bm g cs t))) → wpList Try.prog ops Q rest (a.put (some N) (.slice (some ⟨g, 0, none⟩) n c)) w1) : wpList Try.prog ops Q (o :: rest) a W := by
  have hg := Bk.heap (pred_at S.out hs)
  have hsh : W.shape? g = some (t, cs.size) := by unfold World.shape?; rw [hg]
  have hr : (convert 30 30 (.slice (some ⟨g, 0, none⟩) n c)).run Try.prog W = .ok (.slice (some ⟨g, 0, none⟩) n c) (W.freeze ⟨g, cs.size, none⟩ 1) := by
    have e1 : (convert 30 30 (.slice (some ⟨g, 0, none⟩) n c)).run Try.prog W = ((markStringish ⟨g, 0, none⟩).run Try.prog W).andThen (fun _ w' => .ok (.slice (some ⟨g, 0, none⟩) n c) w') := by
      unfold convert
      simp [Sem.run_bind, run_underlying Try.underlying30, run_underlying Try.underlying5]
    rw [e1]
    unfold markStringish
    simp [Sem.run_bind, shape, Sem.run, hsh]
  refine wpList_step fun K hK => ?_
  rw [if_pos hw]
  unfold Oper.wp execOp
  simp only [ho, hx, hr, Sem.run_bind, Result.andThen_ok, Sem.run_pure]
  refine hK _ _ ?_
  rw [hN]
  have hl : g < W.heap.size := (Array.getElem?_eq_some_iff.1 hg).1
  have hb := freeze_below (Below.refl 0 W) (p := ⟨g, cs.size, none⟩) (Nat.zero_le _) 1
  refine h _ ⟨turn_at S.out hs hb.os hb.tape hb.output hb.size (fun k _ hne => ?_) (Bm.of ?_) (fun k hk => .inl (by rw [Bm.foot_iff.1 hk]; exact Bk.at))⟩
  · have hk : ¬ g = k := fun e => hne (by rw [← e]; exact Bk.at)
    unfold World.freeze
    rw [if_neg (by decide)]
    show (W.heap.modify g _)[k]? = _
    rw [Array.getElem?_modify, if_neg hk]
  · unfold World.freeze
    rw [if_neg (by decide)]
    show ∃ fr, (W.heap.modify g _)[g]? = _
    rw [Array.getElem?_modify, if_pos rfl, hg]
    exact ⟨_, rfl⟩
theorem ev_str {x : Operand} {A : Option Addr} {n c : Nat} {xs : List Int} {s : ByteArray} (hw : Region.wanted o (yielded ops a.tmps) = true) (N : Tmp) (hN : o.dst = some N) (ho : o.op = .convert 30 9 x) (hx : a.eval x = .slice A n c) (hn : xs.length = n) (hC : Kd.C (Kd.int .u8) W A xs.length xs) (hs : strOfNums xs = s)
    (h : wpList Try.prog ops Q rest (a.put (some N) (.string s)) W) : wpList Try.prog ops Q (o :: rest) a W := by
  subst hn hs
  have hr := Kd.C_string (P := Try.prog) (src := 30) (dst := 9) (e := 5) (c := c) Try.underlying30 Try.underlying5 Try.underlying9 hC
  refine wpList_step fun K hK => ?_
  rw [if_pos hw]
  unfold Oper.wp execOp
  simp only [ho, hx, hr, Sem.run_bind, Result.andThen_ok, Sem.run_pure]
  refine hK _ _ ?_
  rw [hN]
  exact h
end
def magic0 : List Int := [66, 85, 68, 49, 0, 0, 0, 0, 0, 0]
theorem put_zero (w : World) : Calls Try.prog 12 #[.agg #[.string ⟨#[]⟩, .slice none 0 0, .slice none 0 0, .slice none 0 0, .slice none 0 0, .slice none 0 0]] w fun z w' => ∃ A c, z = .returned (.tuple #[.slice A 10 c, .int .i64 0]) ∧ (Ow (Kd.int .u8) 5 A c magic0).pred w' ∧ (∀ k, (Ow (Kd.int .u8) 5 A c magic0).foot k → w.heap.size ≤ k) ∧ Below w.heap.size w w' :=
  put_okl ⟨#[]⟩ none 0 [] none 0 [] none 0 [] none 0 [] none 0 [] w ⟨Kd.C_nil _ _, Nat.le_refl _, Kd.C_nil _ _, Nat.le_refl _, Kd.C_nil _ _, Nat.le_refl _, Kd.C_nil _ _, Nat.le_refl _, Kd.C_nil _ _, Nat.le_refl _⟩ 0 (by decide) (by decide) magic0 (by decide)
theorem dec_nil : Dc ([] : List Int) [] 3 (strOfNums []) [] 3 0 [] 3 [] [] 3 0 [] 3 [] [] 3 [] [] 3 [] [] 3 0 [] 3 [] := by
  constructor <;> first | rfl | decide | simp [one39, rText, rVar, vr, rTake, atM, mx, mn, rList, rWords, wordsK]
theorem get_bad {g : Nat} (w : World) (hC : Kd.C (Kd.int .u8) w (some ⟨g, 0, none⟩) 4 [66, 85, 68, 50]) : Calls Try.prog 17 #[.slice (some ⟨g, 0, none⟩) 4 4] w fun z w' => z = .returned (.tuple #[.agg #[.string ⟨#[]⟩, .slice none 0 0, .slice none 0 0, .slice none 0 0, .slice none 0 0, .slice none 0 0], .int .i64 4]) ∧ Below w.heap.size w w' := by
  refine (get_go (some ⟨g, 0, none⟩) 4 [66, 85, 68, 50] w hC (Nat.le_refl _) (Nat.le_refl _) (by decide) dec_nil (by decide) _ rfl _ rfl).mono ?_
  rintro z w' ⟨h1, h2⟩
  unfold Got at h1
  rw [if_neg (by simp)] at h1
  exact ⟨h1, h2⟩

set_option maxRecDepth 100000 in
set_option maxHeartbeats 4000000 in
theorem awake_calls (w : World) : Calls Try.prog 10 #[] w fun z w' => z = .returned (.bool true) ∧ Below w.heap.size w w' := by
  have S := Aside0.mk (St.start w)
  go_enter Try.func10, Try.ntmps10
  go_wp2_with (first | ((with_reducible refine gate_dst (N := 11) rfl ?_); refine ev_litB (cs := #[.int .u8 66, .int .u8 85, .int .u8 68, .int .u8 50]) (t := 5) (n := 4) S ?_ 11 rfl (by first | (go_simp; done) | (go_simp; rfl)) ?_; (first | exact want0 rfl | exact want1 rfl rfl rfl rfl); intro g11 w11 S_; clear S; have S := S_; clear S_) | (refine ev_conv (g := g11) S ?_ 12 rfl rfl rfl (by repeat (first | exact Spot.here _ _ | apply Spot.there)) ?_; (first | exact want0 rfl | exact want1 rfl rfl rfl rfl); intro w_ S_; clear S; have S := S_; clear S_) | (refine ev_str (xs := magic0) (s := ⟨#[66, 85, 68, 49, 0, 0, 0, 0, 0, 0]⟩) ?_ 17 rfl rfl rfl rfl (Ow.reads (pred_at S.out (a := Ow (Kd.int .u8) 5 A7 c7 magic0) (by repeat (first | exact Spot.here _ _ | apply Spot.there)))) rfl ?_; (first | exact want0 rfl | exact want1 rfl rfl rfl rfl)) | ((with_reducible refine gate_dst (N := 3) rfl ?_); refine ev_alloc #[.string ⟨#[]⟩, .slice none 0 0, .slice none 0 0, .slice none 0 0, .slice none 0 0, .slice none 0 0] rfl S ?_ 3 rfl rfl z26 ?_; (first | exact want0 rfl | exact want1 rfl rfl rfl rfl); intro g3 w3 S_; clear S; have S := S_; clear S_) | (refine ev_puts S ?_ rfl rfl s26 rfl rfl (by repeat (first | exact Spot.here _ _ | apply Spot.there)) rfl ?_ ?_ ?_; (first | exact want0 rfl | exact want1 rfl rfl rfl rfl); rfl; rfl; intro w_ S_; simp only [putAt, List.set_cons_zero, List.set_cons_succ] at S_; clear S; have S := S_; clear S_) | (go_at_call 12; (with_reducible refine (put_zero _).mono ?_); rintro z_ w_ ⟨A7, c7, rfl, h1_, h2_, hb_⟩; have S_ := Aside0.mk (St.add S.out hb_ _ h1_ h2_); clear h1_ h2_ hb_; clear S; have S := S_; clear S_) | (go_at_call 17; (with_reducible refine (get_bad (g := g11) _ (C_marked (xs := [66, 85, 68, 50]) (pred_at S.out (a := Bm g11 #[.int .u8 66, .int .u8 85, .int .u8 68, .int .u8 50] 5) (by repeat (first | exact Spot.here _ _ | apply Spot.there))) rfl (by decide))).mono ?_); rintro z_ w_ ⟨rfl, hb_⟩; have hb2_ := hb_; have S_ := Aside0.mk (S.out.keep hb2_); clear hb2_ hb_; clear S; have S := S_; clear S_))
  go_ret
  exact ⟨rfl, S.out.below⟩
end Go.Proofs.Ytkoimdgpicmakaa.Ob
namespace Go.Proofs.Ytkoimdgpicmakaa.Ob
open Go.Proofs.Ytkoimdgpicmakaa.Inv
open Go.RowKit Go.Proofs.Ytkoimdgpicmakaa.Sep Go.Proofs.YtkoimdgpicmakaaW.PrintWords Go.Proofs.YtkoimdgpicmakaaW.PrintLast Go.Proofs.Ytkoimdgpicmakaa.Wm Go.Proofs.Ytkoimdgpicmakaa.Ev Go.Proofs.Ytkoimdgpicmakaa.Ty Go.Proofs.Ytkoimdgpicmakaa.PB
set_option linter.unusedVariables false
set_option linter.unusedSimpArgs false
theorem st_str {ops : Array Oper} {o : Oper} {a : Act} {Q : Exit → Act → World → Prop} {K : Act → World → Prop} {W : World} {x : Operand} {A : Option Addr} {n c : Nat} {xs : List Int} {s : ByteArray} (hw : Region.wanted o (yielded ops a.tmps) = true) (N : Tmp) (hN : o.dst = some N) (ho : o.op = .convert 30 9 x) (hx : a.eval x = .slice A n c) (hn : xs.length = n) (hC : Kd.C (Kd.int .u8) W A xs.length xs) (hs : strOfNums xs = s)
    (h : K (a.put (some N) (.string s)) W) : if Region.wanted o (yielded ops a.tmps) = true then Oper.wp Try.prog o a W K Q else K (a.put (some N) undef) W := by
  subst hn hs
  have hr := Kd.C_string (P := Try.prog) (src := 30) (dst := 9) (e := 5) (c := c) Try.underlying30 Try.underlying5 Try.underlying9 hC
  rw [if_pos hw]
  unfold Oper.wp execOp
  simp only [ho, hx, hr, Sem.run_bind, Result.andThen_ok, Sem.run_pure]
  show K (a.put o.dst _) _
  rw [hN]
  exact h
theorem Md.below {W W' : World} {anm : ByteArray} {Aa1 : Option Addr} {ca1 : Nat} {aex : List ByteArray} {Aa2 : Option Addr} {ca2 : Nat} {aim : List ByteArray} {Aa3 : Option Addr} {ca3 : Nat} {aco : List Int} {Aa4 : Option Addr} {ca4 : Nat} {ada : List Int} {Aa5 : Option Addr} {ca5 : Nat} {are : List S50}  (h : Md W anm Aa1 ca1 aex Aa2 ca2 aim Aa3 ca3 aco Aa4 ca4 ada Aa5 ca5 are) (hb : Below W.heap.size W W') : Md W' anm Aa1 ca1 aex Aa2 ca2 aim Aa3 ca3 aco Aa4 ca4 ada Aa5 ca5 are :=
  ⟨Kd.C_below h.r1 hb, h.l1, Kd.C_below h.r2 hb, h.l2, Kd.C_below h.r3 hb, h.l3, Kd.C_below h.r4 hb, h.l4, Kd.C_below h.r5 hb, h.l5⟩

theorem str_inj {a b : List Int} (ha : ∀ x ∈ a, 0 ≤ x ∧ x < 256) (hb : ∀ x ∈ b, 0 ≤ x ∧ x < 256) (h : strOfNums a = strOfNums b) : a = b := by
  have key : ∀ (l : List Int), (∀ x ∈ l, 0 ≤ x ∧ x < 256) → (bytesOf (strOfNums l)) = l := by
    intro l hl
    unfold bytesOf strOfNums
    simp only [List.map_map]
    conv => rhs; rw [← List.map_id l]
    apply List.map_congr_left
    intro x hx
    have := hl x hx
    simp only [Function.comp, id]
    rw [UInt8.toNat_ofNat']
    omega
  rw [← key a ha, ← key b hb, h]
theorem tail_byte {nm : ByteArray} {ex im : List ByteArray} {co da : List Int} {re : List S50} (h : Okm nm ex im co da re) (hre : ∀ r ∈ re, Rb r) : ∀ x ∈ enc nm ex im co da re, 0 ≤ x ∧ x < 256 := by
  unfold enc
  exact app_byte (by decide) (app_byte (txt_byte nm) (app_byte (texts_byte ex (by have := h.nex; omega)) (app_byte (texts_byte im (by have := h.nim; omega)) (app_byte (wds_byte co) (app_byte (wds_byte da) (rels_byte re (by have := h.nre; omega) hre))))))

theorem rb_of {re : List S50} {nm : ByteArray} {ex im : List ByteArray} {co da : List Int} (h : Okm nm ex im co da re) (hw : ∀ r ∈ re, 0 ≤ r.f0 ∧ 0 ≤ r.f1 ∧ r.f1 < 65536 ∧ 0 ≤ r.f2 ∧ r.f2 < 65536) : ∀ r ∈ re, Rb r := fun r hr => by
  have h1 := hw r hr
  exact ⟨h1.1, h.res r hr, h1.2.1, h1.2.2.1, h1.2.2.2.1, h1.2.2.2.2⟩
end Go.Proofs.Ytkoimdgpicmakaa.Ob
namespace Go.Proofs.Ytkoimdgpicmakaa.Ob
open Go.Proofs.Ytkoimdgpicmakaa.Inv
open Go.RowKit Go.Proofs.Ytkoimdgpicmakaa.Sep Go.Proofs.YtkoimdgpicmakaaW.PrintWords Go.Proofs.YtkoimdgpicmakaaW.PrintLast Go.Proofs.Ytkoimdgpicmakaa.Wm Go.Proofs.Ytkoimdgpicmakaa.Ev Go.Proofs.Ytkoimdgpicmakaa.Ty Go.Proofs.Ytkoimdgpicmakaa.PB
set_option linter.unusedVariables false
set_option linter.unusedSimpArgs false

/-- A module's rows, as one that is read. -/
def MoA (m : Mo) (A1 : Option Addr) (c1 : Nat) (A2 : Option Addr) (c2 : Nat) (A3 : Option Addr) (c3 : Nat) (A4 : Option Addr) (c4 : Nat) (A5 : Option Addr) (c5 : Nat) : Asn := both (Ow Kd.string 9 A1 c1 m.ex) (both (Ow Kd.string 9 A2 c2 m.im) (both (Ow (Kd.int .u32) 43 A3 c3 m.co) (both (Ow (Kd.int .u32) 43 A4 c4 m.da) (Ow k50 50 A5 c5 m.re))))
/-- All but the code. -/
def MoR (m : Mo) (A1 : Option Addr) (c1 : Nat) (A2 : Option Addr) (c2 : Nat) (A3 : Option Addr) (c3 : Nat) (A4 : Option Addr) (c4 : Nat) (A5 : Option Addr) (c5 : Nat) : Asn := both (Ow Kd.string 9 A1 c1 m.ex) (both (Ow Kd.string 9 A2 c2 m.im) (both (Ow (Kd.int .u32) 43 A4 c4 m.da) (Ow k50 50 A5 c5 m.re)))
section
variable {W : World} {m : Mo} {A1 : Option Addr} {c1 : Nat} {A2 : Option Addr} {c2 : Nat} {A3 : Option Addr} {c3 : Nat} {A4 : Option Addr} {c4 : Nat} {A5 : Option Addr} {c5 : Nat}
theorem MoA.md (h : (MoA m A1 c1 A2 c2 A3 c3 A4 c4 A5 c5).pred W) : Md W m.nm A1 c1 m.ex A2 c2 m.im A3 c3 m.co A4 c4 m.da A5 c5 m.re := ⟨Ow.reads h.1, Ow.cap h.1, Ow.reads h.2.1, Ow.cap h.2.1, Ow.reads h.2.2.1, Ow.cap h.2.2.1, Ow.reads h.2.2.2.1, Ow.cap h.2.2.2.1, Ow.reads h.2.2.2.2, Ow.cap h.2.2.2.2⟩
theorem MoA.mk (h1 : (Ow Kd.string 9 A1 c1 m.ex).pred W) (h2 : (Ow Kd.string 9 A2 c2 m.im).pred W) (h3 : (Ow (Kd.int .u32) 43 A3 c3 m.co).pred W) (h4 : (Ow (Kd.int .u32) 43 A4 c4 m.da).pred W) (h5 : (Ow k50 50 A5 c5 m.re).pred W) : (MoA m A1 c1 A2 c2 A3 c3 A4 c4 A5 c5).pred W := ⟨h1, h2, h3, h4, h5⟩
theorem MoA.new {P : Nat → Prop} (h1 : ∀ k, (Ow Kd.string 9 A1 c1 m.ex).foot k → P k) (h2 : ∀ k, (Ow Kd.string 9 A2 c2 m.im).foot k → P k) (h3 : ∀ k, (Ow (Kd.int .u32) 43 A3 c3 m.co).foot k → P k) (h4 : ∀ k, (Ow (Kd.int .u32) 43 A4 c4 m.da).foot k → P k) (h5 : ∀ k, (Ow k50 50 A5 c5 m.re).foot k → P k) : ∀ k, (MoA m A1 c1 A2 c2 A3 c3 A4 c4 A5 c5).foot k → P k := by
  rintro k (h | h | h | h | h)
  · exact h1 k h
  · exact h2 k h
  · exact h3 k h
  · exact h4 k h
  · exact h5 k h
theorem MoR.md (h : (MoR m A1 c1 A2 c2 A3 c3 A4 c4 A5 c5).pred W) (l : List Int) (hl : l.length = m.co.length) (h3 : (Ow (Kd.int .u32) 43 A3 c3 l).pred W) : Md W m.nm A1 c1 m.ex A2 c2 m.im A3 c3 l A4 c4 m.da A5 c5 m.re := ⟨Ow.reads h.1, Ow.cap h.1, Ow.reads h.2.1, Ow.cap h.2.1, Ow.reads h3, Ow.cap h3, Ow.reads h.2.2.1, Ow.cap h.2.2.1, Ow.reads h.2.2.2, Ow.cap h.2.2.2⟩
theorem MoR.mk (h1 : (Ow Kd.string 9 A1 c1 m.ex).pred W) (h2 : (Ow Kd.string 9 A2 c2 m.im).pred W) (h4 : (Ow (Kd.int .u32) 43 A4 c4 m.da).pred W) (h5 : (Ow k50 50 A5 c5 m.re).pred W) : (MoR m A1 c1 A2 c2 A3 c3 A4 c4 A5 c5).pred W := ⟨h1, h2, h4, h5⟩
theorem MoR.new {P : Nat → Prop} (h1 : ∀ k, (Ow Kd.string 9 A1 c1 m.ex).foot k → P k) (h2 : ∀ k, (Ow Kd.string 9 A2 c2 m.im).foot k → P k) (h4 : ∀ k, (Ow (Kd.int .u32) 43 A4 c4 m.da).foot k → P k) (h5 : ∀ k, (Ow k50 50 A5 c5 m.re).foot k → P k) : ∀ k, (MoR m A1 c1 A2 c2 A3 c3 A4 c4 A5 c5).foot k → P k := by
  rintro k (h | h | h | h)
  · exact h1 k h
  · exact h2 k h
  · exact h4 k h
  · exact h5 k h
theorem MoR.apart {a : Asn} (h1 : Apart a (Ow Kd.string 9 A1 c1 m.ex)) (h2 : Apart a (Ow Kd.string 9 A2 c2 m.im)) (h4 : Apart a (Ow (Kd.int .u32) 43 A4 c4 m.da)) (h5 : Apart a (Ow k50 50 A5 c5 m.re)) : Apart a (MoR m A1 c1 A2 c2 A3 c3 A4 c4 A5 c5) := by
  rintro k hk (h | h | h | h)
  · exact h1 k hk h
  · exact h2 k hk h
  · exact h4 k hk h
  · exact h5 k hk h
end
attribute [irreducible] MoA MoR
structure Mo.Few (m : Mo) : Prop where
  ex : m.ex.length ≤ 2000
  im : m.im.length ≤ 2000
  co : m.co.length ≤ 2000
  da : m.da.length ≤ 2000
  re : m.re.length ≤ 2000
theorem Lies.few {m : Mo} {xs : List Int} (h : Lies m xs) : m.Few := by
  have := h.okm.nex; have := h.okm.nim; have := h.okm.nco; have := h.okm.nda; have := h.okm.nre
  exact ⟨by omega, by omega, by omega, by omega, by omega⟩
theorem chk_mo (m : Mo) (A1 : Option Addr) (c1 : Nat) (A2 : Option Addr) (c2 : Nat) (A3 : Option Addr) (c3 : Nat) (A4 : Option Addr) (c4 : Nat) (A5 : Option Addr) (c5 : Nat) (w : World) (h : Md w m.nm A1 c1 m.ex A2 c2 m.im A3 c3 m.co A4 c4 m.da A5 c5 m.re) (f : Int) (hf : m.chk = f) : Calls Try.prog 14 #[.agg #[.string m.nm, .slice A1 m.ex.length c1, .slice A2 m.im.length c2, .slice A3 m.co.length c3, .slice A4 m.da.length c4, .slice A5 m.re.length c5]] w fun z w' => z = .returned (.int .i64 f) ∧ Below w.heap.size w w' := by
  have c := check_calls m.nm A1 c1 m.ex A2 c2 m.im A3 c3 m.co A4 c4 m.da A5 c5 m.re w h
  rw [show Ob.chk m.nm m.ex m.im m.co m.da m.re = f from hf] at c
  exact c
theorem put_mo (m : Mo) (A1 : Option Addr) (c1 : Nat) (A2 : Option Addr) (c2 : Nat) (A3 : Option Addr) (c3 : Nat) (A4 : Option Addr) (c4 : Nat) (A5 : Option Addr) (c5 : Nat) (w : World) (h : Md w m.nm A1 c1 m.ex A2 c2 m.im A3 c3 m.co A4 c4 m.da A5 c5 m.re) (hf : m.chk = 0) (xs : List Int) (hx : m.enc = xs) : Calls Try.prog 12 #[.agg #[.string m.nm, .slice A1 m.ex.length c1, .slice A2 m.im.length c2, .slice A3 m.co.length c3, .slice A4 m.da.length c4, .slice A5 m.re.length c5]] w fun z w' => ∃ A c, z = .returned (.tuple #[.slice A xs.length c, .int .i64 0]) ∧ (Ow (Kd.int .u8) 5 A c xs).pred w' ∧ (∀ k, (Ow (Kd.int .u8) 5 A c xs).foot k → w.heap.size ≤ k) ∧ Below w.heap.size w w' :=
  put_okl m.nm A1 c1 m.ex A2 c2 m.im A3 c3 m.co A4 c4 m.da A5 c5 m.re w h 0 hf (by decide) xs hx
theorem putno_mo (m : Mo) (A1 : Option Addr) (c1 : Nat) (A2 : Option Addr) (c2 : Nat) (A3 : Option Addr) (c3 : Nat) (A4 : Option Addr) (c4 : Nat) (A5 : Option Addr) (c5 : Nat) (w : World) (h : Md w m.nm A1 c1 m.ex A2 c2 m.im A3 c3 m.co A4 c4 m.da A5 c5 m.re) (f : Int) (hf : m.chk = f) (hne : (f != 0) = true) : Calls Try.prog 12 #[.agg #[.string m.nm, .slice A1 m.ex.length c1, .slice A2 m.im.length c2, .slice A3 m.co.length c3, .slice A4 m.da.length c4, .slice A5 m.re.length c5]] w fun z w' => z = .returned (.tuple #[.slice none 0 0, .int .i64 f]) ∧ Below w.heap.size w w' :=
  put_no m.nm A1 c1 m.ex A2 c2 m.im A3 c3 m.co A4 c4 m.da A5 c5 m.re w h f hf hne
/-- Are two modules one? -/
noncomputable def Mo.same (m n : Mo) : Bool := sm m.nm m.ex m.im m.co m.da m.re n.nm n.ex n.im n.co n.da n.re
theorem Mo.same_self (m : Mo) : m.same m = true := by unfold Mo.same sm; simp
theorem Mo.same_iff (m n : Mo) : m.same n = true ↔ m = n := by
  unfold Mo.same sm
  rw [decide_eq_true_iff]
  constructor
  · rintro ⟨e1, e2, e3, e4, e5, e6⟩
    rcases m with ⟨m1, m2, m3, m4, m5, m6⟩
    rcases n with ⟨n1, n2, n3, n4, n5, n6⟩
    simp only at e1 e2 e3 e4 e5 e6
    rw [e1, e2, e3, e4, e5, e6]
  · rintro rfl
    exact ⟨rfl, rfl, rfl, rfl, rfl, rfl⟩
end Go.Proofs.Ytkoimdgpicmakaa.Ob
