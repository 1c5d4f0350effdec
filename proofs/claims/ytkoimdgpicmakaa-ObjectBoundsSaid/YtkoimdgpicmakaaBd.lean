/- At each bound a module is laid and read, and one above it is refused. -/
import Derived.Test.YtkoimdgpicmakaaZMo
namespace Go.Proofs.Ytkoimdgpicmakaa.Ob
open Go.Proofs.Ytkoimdgpicmakaa.Inv
open Go.RowKit Go.Proofs.Ytkoimdgpicmakaa.Sep Go.Proofs.YtkoimdgpicmakaaW.PrintWords Go.Proofs.YtkoimdgpicmakaaW.PrintLast Go.Proofs.Ytkoimdgpicmakaa.Wm Go.Proofs.Ytkoimdgpicmakaa.Ev Go.Proofs.Ytkoimdgpicmakaa.Ty Go.Proofs.Ytkoimdgpicmakaa.PB
set_option linter.unusedVariables false
set_option linter.unusedSimpArgs false

section
variable {P : Program} {ops : Array Oper} {rest : List Oper} {o : Oper} {a : Act} {Q : Exit → Act → World → Prop} {B : Nat} {w W : World} {L : List Asn}
theorem ev_make {α : Type} {d : Kd α} (e : TypeId) (z : Value) (bytes : Nat) (z0 : α) (m : Nat) (l : List α) (hl0 : l = List.replicate m z0) {t : TypeId} {x y : Operand} (S : Aside0 (St B w W L)) (hgd : o.guard = none) (N : Tmp) (hN : o.dst = some N) (ho : o.op = .makeSlice t x y) (hx : a.eval x = .int .i64 (m : Int)) (hy : a.eval y = .int .i64 (m : Int))
    (ht : P.underlying t = some (.slice e)) (hinfo : (P.info? e).map (fun i => (i.zero, i.size, i.bytes)) = some (some z, d.sz, bytes)) (hz : z.cells.size = d.sz) (hs0 : 0 < d.sz) (hb0 : 0 < bytes) (hE : d.E = []) (hzero : ∀ W b, d.M W b (fun _ => False) z0 z.cells.toList) (hb : m * bytes ≤ 281474976710656)
    (h : ∀ A c w1, Aside0 (St B w w1 (Ow d e A c l :: L)) → wpList P ops Q rest (a.put (some N) (.slice A m c)) w1) : wpList P ops Q (o :: rest) a W := by
  refine Kd.R_make d (w0 := W) W.heap.size e hgd hN t x y ho (m : Int) hx hy ht z bytes hinfo hz hs0 hb0 z0 (ok := fun _ => True) (okp := fun _ => False) (hzero W _) (fun _ hk => hk.elim) trivial (by omega) (by simpa using hb) (Below.refl _ _) (Nat.le_refl _) ?_
  intro v1 w1 hR hb1 _ _
  rw [Int.toNat_natCast, ← hl0] at hR
  obtain ⟨A, c, rfl, _⟩ := Kd.R_reads hR
  rw [hN, show (Value.slice A l.length c) = .slice A m c by rw [hl0, List.length_replicate]]
  exact h A c w1 ⟨St.add S.out hb1 _ (Ow.mk hE hR) (Ow.new hR)⟩
end
theorem infz9 : (Try.prog.info? 9).map (fun i => (i.zero, i.size, i.bytes)) = some (some (.string ⟨#[]⟩), 1, 16) := by kernel_rfl
theorem infz43 : (Try.prog.info? 43).map (fun i => (i.zero, i.size, i.bytes)) = some (some (.int .u32 0), 1, 4) := by kernel_rfl
theorem infz5 : (Try.prog.info? 5).map (fun i => (i.zero, i.size, i.bytes)) = some (some (.int .u8 0), 1, 1) := by kernel_rfl
theorem infz50 : (Try.prog.info? 50).map (fun i => (i.zero, i.size, i.bytes)) = some (some (.agg #[.int .u8 0, .int .u16 0, .int .u16 0]), 3, 6) := by kernel_rfl
theorem nilC {α : Type} {d : Kd α} {W : World} {l : List α} (h : l = []) : Kd.C d W none l.length l := by
  subst h
  exact Kd.C_nil _ _
theorem nilL {α : Type} {l : List α} (h : l = []) : l.length ≤ 0 := by
  subst h
  exact Nat.le_refl _
theorem get_nil (w : World) : Calls Try.prog 17 #[.slice none 0 0] w fun z w' => z = .returned (.tuple #[.agg #[.string ⟨#[]⟩, .slice none 0 0, .slice none 0 0, .slice none 0 0, .slice none 0 0, .slice none 0 0], .int .i64 4]) ∧ Below w.heap.size w w' := get_short none 0 [] w (by decide)
theorem put_moL (m : Mo) (A1 : Option Addr) (c1 : Nat) (A2 : Option Addr) (c2 : Nat) (A3 : Option Addr) (c3 : Nat) (A4 : Option Addr) (c4 : Nat) (A5 : Option Addr) (c5 : Nat) (w : World) (h : Md w m.nm A1 c1 m.ex A2 c2 m.im A3 c3 m.co A4 c4 m.da A5 c5 m.re) (s : ByteArray) (n1 : Nat) (n2 : Nat) (n3 : Nat) (n4 : Nat) (n5 : Nat) (hs : m.nm = s) (h1 : m.ex.length = n1) (h2 : m.im.length = n2) (h3 : m.co.length = n3) (h4 : m.da.length = n4) (h5 : m.re.length = n5) (hf : m.chk = 0) (xs : List Int) (hx : m.enc = xs) : Calls Try.prog 12 #[.agg #[.string s, .slice A1 n1 c1, .slice A2 n2 c2, .slice A3 n3 c3, .slice A4 n4 c4, .slice A5 n5 c5]] w fun z w' => ∃ A c, z = .returned (.tuple #[.slice A xs.length c, .int .i64 0]) ∧ (Ow (Kd.int .u8) 5 A c xs).pred w' ∧ (∀ k, (Ow (Kd.int .u8) 5 A c xs).foot k → w.heap.size ≤ k) ∧ Below w.heap.size w w' := by
  subst hs h1 h2 h3 h4 h5
  exact put_mo m A1 c1 A2 c2 A3 c3 A4 c4 A5 c5 w h hf xs hx
theorem putno_moL (m : Mo) (A1 : Option Addr) (c1 : Nat) (A2 : Option Addr) (c2 : Nat) (A3 : Option Addr) (c3 : Nat) (A4 : Option Addr) (c4 : Nat) (A5 : Option Addr) (c5 : Nat) (w : World) (h : Md w m.nm A1 c1 m.ex A2 c2 m.im A3 c3 m.co A4 c4 m.da A5 c5 m.re) (s : ByteArray) (n1 : Nat) (n2 : Nat) (n3 : Nat) (n4 : Nat) (n5 : Nat) (hs : m.nm = s) (h1 : m.ex.length = n1) (h2 : m.im.length = n2) (h3 : m.co.length = n3) (h4 : m.da.length = n4) (h5 : m.re.length = n5) (f : Int) (hf : m.chk = f) (hne : (f != 0) = true) : Calls Try.prog 12 #[.agg #[.string s, .slice A1 n1 c1, .slice A2 n2 c2, .slice A3 n3 c3, .slice A4 n4 c4, .slice A5 n5 c5]] w fun z w' => z = .returned (.tuple #[.slice none 0 0, .int .i64 f]) ∧ Below w.heap.size w w' := by
  subst hs h1 h2 h3 h4 h5
  exact putno_mo m A1 c1 A2 c2 A3 c3 A4 c4 A5 c5 w h f hf hne
theorem same_moL (m : Mo) (Aa1 : Option Addr) (ca1 : Nat) (Aa2 : Option Addr) (ca2 : Nat) (Aa3 : Option Addr) (ca3 : Nat) (Aa4 : Option Addr) (ca4 : Nat) (Aa5 : Option Addr) (ca5 : Nat) (A1 : Option Addr) (c1 : Nat) (A2 : Option Addr) (c2 : Nat) (A3 : Option Addr) (c3 : Nat) (A4 : Option Addr) (c4 : Nat) (A5 : Option Addr) (c5 : Nat) (w : World) (ha : Md w m.nm Aa1 ca1 m.ex Aa2 ca2 m.im Aa3 ca3 m.co Aa4 ca4 m.da Aa5 ca5 m.re) (h : Md w m.nm A1 c1 m.ex A2 c2 m.im A3 c3 m.co A4 c4 m.da A5 c5 m.re) (few : m.Few) (s : ByteArray) (n1 : Nat) (n2 : Nat) (n3 : Nat) (n4 : Nat) (n5 : Nat) (hs : m.nm = s) (h1 : m.ex.length = n1) (h2 : m.im.length = n2) (h3 : m.co.length = n3) (h4 : m.da.length = n4) (h5 : m.re.length = n5) : Calls Try.prog 19 #[.agg #[.string m.nm, .slice Aa1 m.ex.length ca1, .slice Aa2 m.im.length ca2, .slice Aa3 m.co.length ca3, .slice Aa4 m.da.length ca4, .slice Aa5 m.re.length ca5], .agg #[.string s, .slice A1 n1 c1, .slice A2 n2 c2, .slice A3 n3 c3, .slice A4 n4 c4, .slice A5 n5 c5]] w fun z w' => z = .returned (.bool true) ∧ Below w.heap.size w w' := by
  subst hs h1 h2 h3 h4 h5
  exact same_mo m m Aa1 ca1 Aa2 ca2 Aa3 ca3 Aa4 ca4 Aa5 ca5 A1 c1 A2 c2 A3 c3 A4 c4 A5 c5 w ha h few true (Mo.same_self m)

set_option maxRecDepth 100000 in
set_option maxHeartbeats 8000000 in
theorem bound0f (k : Int) (h0 : 0 ≤ k) (h1 : k ≤ 255) (hk : k % 6 = 0) (w : World) : Calls Try.prog 6 #[.int .u8 k, .bool false] w fun z w' => z = .returned (.bool true) ∧ Below w.heap.size w w' := by
  have S := Aside0.mk (St.start w)
  have hk2 : Int.tmod k 6 = 0 := by rw [Int.tmod_eq_emod_of_nonneg h0]; exact hk
  obtain ⟨m, hm⟩ : ∃ m : Mo, m = ⟨⟨#[]⟩, List.replicate 8 (⟨#[]⟩ : ByteArray), [], [], [], []⟩ := ⟨_, rfl⟩
  have hs : m.nm = ⟨#[]⟩ := by rw [hm]
  have e1 : m.ex = List.replicate 8 (⟨#[]⟩ : ByteArray) := by rw [hm]
  have l1 : m.ex.length = 8 := by rw [e1]; simp
  have e2 : m.im = [] := by rw [hm]
  have l2 : m.im.length = 0 := by rw [e2]; simp
  have e3 : m.co = [] := by rw [hm]
  have l3 : m.co.length = 0 := by rw [e3]; simp
  have e4 : m.da = [] := by rw [hm]
  have l4 : m.da.length = 0 := by rw [e4]; simp
  have e5 : m.re = [] := by rw [hm]
  have l5 : m.re.length = 0 := by rw [e5]; simp
  have hchk : m.chk = 0 := by rw [hm]; unfold Mo.chk; simp only; decide +kernel
  have HS_ := Aside0.mk hs
  have HC_ := Aside0.mk hchk
  have HE1 := Aside0.mk e1
  have HE2 := Aside0.mk e2
  have HE3 := Aside0.mk e3
  have HE4 := Aside0.mk e4
  have HE5 := Aside0.mk e5
  have HL1 := Aside0.mk l1
  have HL2 := Aside0.mk l2
  have HL3 := Aside0.mk l3
  have HL4 := Aside0.mk l4
  have HL5 := Aside0.mk l5
  have hwf : m.Wf := by
    refine ⟨fun x hx => ?_, fun x hx => ?_, fun x hx => ?_⟩
    · rw [e3] at hx; cases hx
    · rw [e4] at hx; cases hx
    · rw [e5] at hx; cases hx
  obtain ⟨en, hen⟩ : ∃ en, m.enc = en := ⟨_, rfl⟩
  have hl : Lies m en := ⟨hchk, hwf, hen⟩
  have HL := Aside0.mk hl
  have few := hl.few
  clear hen hl hwf
  clear hm hs hchk e1 l1 e2 l2 e3 l3 e4 l4 e5 l5
  go_enter Try.func6, Try.ntmps6
  go_wp2_with (first | ((with_reducible refine gate_dst (N := 23) rfl ?_); refine ev_make (d := Kd.string) 9 (.string ⟨#[]⟩) 16 (⟨#[]⟩ : ByteArray) 8 m.ex (by exact HE1.out) S rfl 23 rfl rfl rfl rfl Try.underlying22 infz9 rfl (by decide) (by decide) rfl (fun W b => rfl) (by decide) ?_; intro A23 c23 w_ S_; clear S; have S := S_; clear S_) | ((with_reducible refine gate_dst (N := 6) rfl ?_); refine ev_alloc #[.string ⟨#[]⟩, .slice none 0 0, .slice none 0 0, .slice none 0 0, .slice none 0 0, .slice none 0 0] rfl S ?_ 6 rfl rfl z26 ?_; (first | exact want0 rfl | exact want1 rfl rfl rfl rfl); intro g6 w6 S_; clear S; have S := S_; clear S_) | (refine ev_put1 S ?_ rfl rfl s22 rfl rfl (by repeat (first | exact Spot.here _ _ | apply Spot.there)) ?_ ?_ ?_; (first | exact want0 rfl | exact want1 rfl rfl rfl rfl); rfl; rfl; intro w_ S_; simp only [putAt, List.set_cons_zero, List.set_cons_succ] at S_; clear S; have S := S_; clear S_) | (refine ev_put1 S ?_ rfl rfl s23 rfl rfl (by repeat (first | exact Spot.here _ _ | apply Spot.there)) ?_ ?_ ?_; (first | exact want0 rfl | exact want1 rfl rfl rfl rfl); rfl; rfl; intro w_ S_; simp only [putAt, List.set_cons_zero, List.set_cons_succ] at S_; clear S; have S := S_; clear S_) | (refine ev_put1 S ?_ rfl rfl s24 rfl rfl (by repeat (first | exact Spot.here _ _ | apply Spot.there)) ?_ ?_ ?_; (first | exact want0 rfl | exact want1 rfl rfl rfl rfl); rfl; rfl; intro w_ S_; simp only [putAt, List.set_cons_zero, List.set_cons_succ] at S_; clear S; have S := S_; clear S_) | (refine ev_put1 S ?_ rfl rfl s9 rfl rfl (by repeat (first | exact Spot.here _ _ | apply Spot.there)) ?_ ?_ ?_; (first | exact want0 rfl | exact want1 rfl rfl rfl rfl); rfl; rfl; intro w_ S_; simp only [putAt, List.set_cons_zero, List.set_cons_succ] at S_; clear S; have S := S_; clear S_) | (refine ev_owns (vs := [_, _, _, _, _, _]) S ?_ rfl m26 rfl (by repeat (first | exact Spot.here _ _ | apply Spot.there)) (by exact rfl) ?_; (first | exact want0 rfl | exact want1 rfl rfl rfl rfl)) | ((with_reducible refine gate_dst (N := 9) rfl ?_); refine ev_alloc #[.string ⟨#[]⟩, .slice none 0 0, .slice none 0 0, .slice none 0 0, .slice none 0 0, .slice none 0 0] rfl S ?_ 9 rfl rfl z26 ?_; (first | exact want0 rfl | exact want1 rfl rfl rfl rfl); intro g9 w9 S_; clear S; have S := S_; clear S_) | (refine ev_puts S ?_ rfl rfl s26 rfl rfl (by repeat (first | exact Spot.here _ _ | apply Spot.there)) rfl ?_ ?_ ?_; (first | exact want0 rfl | exact want1 rfl rfl rfl rfl); rfl; rfl; intro w_ S_; simp only [putAt, List.set_cons_zero, List.set_cons_succ] at S_; clear S; have S := S_; clear S_) | (go_at_call 12; have k_ : Md _ m.nm A23 c23 m.ex none 0 m.im none 0 m.co none 0 m.da none 0 m.re := ⟨Ow.reads (pred_at S.out (a := Ow Kd.string 9 A23 c23 m.ex) (by repeat (first | exact Spot.here _ _ | apply Spot.there))), Ow.cap (pred_at S.out (a := Ow Kd.string 9 A23 c23 m.ex) (by repeat (first | exact Spot.here _ _ | apply Spot.there))), nilC HE2.out, nilL HE2.out, nilC HE3.out, nilL HE3.out, nilC HE4.out, nilL HE4.out, nilC HE5.out, nilL HE5.out⟩; (with_reducible refine (put_moL m A23 c23 none 0 none 0 none 0 none 0 _ k_ ⟨#[]⟩ 8 0 0 0 0 HS_.out HL1.out HL2.out HL3.out HL4.out HL5.out HC_.out en HL.out.enc).mono ?_); clear k_; rintro z_ w_ ⟨Ab, cb, rfl, h1_, h2_, hb_⟩; have S_ := Aside0.mk (St.add S.out hb_ _ h1_ h2_); clear h1_ h2_ hb_; clear S; have S := S_; clear S_) | (go_at_call 17; (with_reducible refine (get_yes Ab cb en _ (Ow.reads (pred_at S.out (a := Ow (Kd.int .u8) 5 Ab cb en) (by repeat (first | exact Spot.here _ _ | apply Spot.there)))) (Ow.cap (pred_at S.out (a := Ow (Kd.int .u8) 5 Ab cb en) (by repeat (first | exact Spot.here _ _ | apply Spot.there)))) m HL.out).mono ?_); rintro z_ w_ ⟨⟨Az1, cz1, Az2, cz2, Az3, cz3, Az4, cz4, Az5, cz5, rfl, p1_, p2_, p3_, p4_, p5_, n1_, n2_, n3_, n4_, n5_, ap_⟩, hb_⟩; have S_ := Aside0.mk (St.add S.out hb_ (MoA m Az1 cz1 Az2 cz2 Az3 cz3 Az4 cz4 Az5 cz5) (MoA.mk p1_ p2_ p3_ p4_ p5_) (MoA.new n1_ n2_ n3_ n4_ n5_)); clear p1_ p2_ p3_ p4_ p5_ n1_ n2_ n3_ n4_ n5_ hb_ ap_; clear S; have S := S_; clear S_) | (go_at_call 19; have k_ : Md _ m.nm A23 c23 m.ex none 0 m.im none 0 m.co none 0 m.da none 0 m.re := ⟨Ow.reads (pred_at S.out (a := Ow Kd.string 9 A23 c23 m.ex) (by repeat (first | exact Spot.here _ _ | apply Spot.there))), Ow.cap (pred_at S.out (a := Ow Kd.string 9 A23 c23 m.ex) (by repeat (first | exact Spot.here _ _ | apply Spot.there))), nilC HE2.out, nilL HE2.out, nilC HE3.out, nilL HE3.out, nilC HE4.out, nilL HE4.out, nilC HE5.out, nilL HE5.out⟩; (with_reducible refine (same_moL m Az1 cz1 Az2 cz2 Az3 cz3 Az4 cz4 Az5 cz5 A23 c23 none 0 none 0 none 0 none 0 _ (MoA.md (pred_at S.out (a := MoA m Az1 cz1 Az2 cz2 Az3 cz3 Az4 cz4 Az5 cz5) (by repeat (first | exact Spot.here _ _ | apply Spot.there)))) k_ few ⟨#[]⟩ 8 0 0 0 0 HS_.out HL1.out HL2.out HL3.out HL4.out HL5.out).mono ?_); clear k_; rintro z_ w_ ⟨rfl, hb_⟩; have hb2_ := hb_; have S_ := Aside0.mk (S.out.keep hb2_); clear hb2_ hb_; clear S; have S := S_; clear S_) | (go_at_call 10; (with_reducible refine (awake_calls _).mono ?_); rintro z_ w_ ⟨rfl, hb_⟩; have hb2_ := hb_; have S_ := Aside0.mk (S.out.keep hb2_); clear hb2_ hb_; clear S; have S := S_; clear S_))
  all_goals
    go_ret
    exact ⟨rfl, S.out.below⟩

set_option maxRecDepth 100000 in
set_option maxHeartbeats 8000000 in
theorem bound0t (k : Int) (h0 : 0 ≤ k) (h1 : k ≤ 255) (hk : k % 6 = 0) (w : World) : Calls Try.prog 6 #[.int .u8 k, .bool true] w fun z w' => z = .returned (.bool true) ∧ Below w.heap.size w w' := by
  have S := Aside0.mk (St.start w)
  have hk2 : Int.tmod k 6 = 0 := by rw [Int.tmod_eq_emod_of_nonneg h0]; exact hk
  obtain ⟨m, hm⟩ : ∃ m : Mo, m = ⟨⟨#[]⟩, List.replicate 9 (⟨#[]⟩ : ByteArray), [], [], [], []⟩ := ⟨_, rfl⟩
  have hs : m.nm = ⟨#[]⟩ := by rw [hm]
  have e1 : m.ex = List.replicate 9 (⟨#[]⟩ : ByteArray) := by rw [hm]
  have l1 : m.ex.length = 9 := by rw [e1]; simp
  have e2 : m.im = [] := by rw [hm]
  have l2 : m.im.length = 0 := by rw [e2]; simp
  have e3 : m.co = [] := by rw [hm]
  have l3 : m.co.length = 0 := by rw [e3]; simp
  have e4 : m.da = [] := by rw [hm]
  have l4 : m.da.length = 0 := by rw [e4]; simp
  have e5 : m.re = [] := by rw [hm]
  have l5 : m.re.length = 0 := by rw [e5]; simp
  have hchk : m.chk = 5 := by rw [hm]; unfold Mo.chk; simp only; decide +kernel
  have HS_ := Aside0.mk hs
  have HC_ := Aside0.mk hchk
  have HE1 := Aside0.mk e1
  have HE2 := Aside0.mk e2
  have HE3 := Aside0.mk e3
  have HE4 := Aside0.mk e4
  have HE5 := Aside0.mk e5
  have HL1 := Aside0.mk l1
  have HL2 := Aside0.mk l2
  have HL3 := Aside0.mk l3
  have HL4 := Aside0.mk l4
  have HL5 := Aside0.mk l5
  clear hm hs hchk e1 l1 e2 l2 e3 l3 e4 l4 e5 l5
  go_enter Try.func6, Try.ntmps6
  go_wp2_with (first | ((with_reducible refine gate_dst (N := 23) rfl ?_); refine ev_make (d := Kd.string) 9 (.string ⟨#[]⟩) 16 (⟨#[]⟩ : ByteArray) 9 m.ex (by exact HE1.out) S rfl 23 rfl rfl rfl rfl Try.underlying22 infz9 rfl (by decide) (by decide) rfl (fun W b => rfl) (by decide) ?_; intro A23 c23 w_ S_; clear S; have S := S_; clear S_) | ((with_reducible refine gate_dst (N := 6) rfl ?_); refine ev_alloc #[.string ⟨#[]⟩, .slice none 0 0, .slice none 0 0, .slice none 0 0, .slice none 0 0, .slice none 0 0] rfl S ?_ 6 rfl rfl z26 ?_; (first | exact want0 rfl | exact want1 rfl rfl rfl rfl); intro g6 w6 S_; clear S; have S := S_; clear S_) | (refine ev_put1 S ?_ rfl rfl s22 rfl rfl (by repeat (first | exact Spot.here _ _ | apply Spot.there)) ?_ ?_ ?_; (first | exact want0 rfl | exact want1 rfl rfl rfl rfl); rfl; rfl; intro w_ S_; simp only [putAt, List.set_cons_zero, List.set_cons_succ] at S_; clear S; have S := S_; clear S_) | (refine ev_put1 S ?_ rfl rfl s23 rfl rfl (by repeat (first | exact Spot.here _ _ | apply Spot.there)) ?_ ?_ ?_; (first | exact want0 rfl | exact want1 rfl rfl rfl rfl); rfl; rfl; intro w_ S_; simp only [putAt, List.set_cons_zero, List.set_cons_succ] at S_; clear S; have S := S_; clear S_) | (refine ev_put1 S ?_ rfl rfl s24 rfl rfl (by repeat (first | exact Spot.here _ _ | apply Spot.there)) ?_ ?_ ?_; (first | exact want0 rfl | exact want1 rfl rfl rfl rfl); rfl; rfl; intro w_ S_; simp only [putAt, List.set_cons_zero, List.set_cons_succ] at S_; clear S; have S := S_; clear S_) | (refine ev_put1 S ?_ rfl rfl s9 rfl rfl (by repeat (first | exact Spot.here _ _ | apply Spot.there)) ?_ ?_ ?_; (first | exact want0 rfl | exact want1 rfl rfl rfl rfl); rfl; rfl; intro w_ S_; simp only [putAt, List.set_cons_zero, List.set_cons_succ] at S_; clear S; have S := S_; clear S_) | (refine ev_owns (vs := [_, _, _, _, _, _]) S ?_ rfl m26 rfl (by repeat (first | exact Spot.here _ _ | apply Spot.there)) (by exact rfl) ?_; (first | exact want0 rfl | exact want1 rfl rfl rfl rfl)) | ((with_reducible refine gate_dst (N := 9) rfl ?_); refine ev_alloc #[.string ⟨#[]⟩, .slice none 0 0, .slice none 0 0, .slice none 0 0, .slice none 0 0, .slice none 0 0] rfl S ?_ 9 rfl rfl z26 ?_; (first | exact want0 rfl | exact want1 rfl rfl rfl rfl); intro g9 w9 S_; clear S; have S := S_; clear S_) | (refine ev_puts S ?_ rfl rfl s26 rfl rfl (by repeat (first | exact Spot.here _ _ | apply Spot.there)) rfl ?_ ?_ ?_; (first | exact want0 rfl | exact want1 rfl rfl rfl rfl); rfl; rfl; intro w_ S_; simp only [putAt, List.set_cons_zero, List.set_cons_succ] at S_; clear S; have S := S_; clear S_) | (go_at_call 12; have k_ : Md _ m.nm A23 c23 m.ex none 0 m.im none 0 m.co none 0 m.da none 0 m.re := ⟨Ow.reads (pred_at S.out (a := Ow Kd.string 9 A23 c23 m.ex) (by repeat (first | exact Spot.here _ _ | apply Spot.there))), Ow.cap (pred_at S.out (a := Ow Kd.string 9 A23 c23 m.ex) (by repeat (first | exact Spot.here _ _ | apply Spot.there))), nilC HE2.out, nilL HE2.out, nilC HE3.out, nilL HE3.out, nilC HE4.out, nilL HE4.out, nilC HE5.out, nilL HE5.out⟩; (with_reducible refine (putno_moL m A23 c23 none 0 none 0 none 0 none 0 _ k_ ⟨#[]⟩ 9 0 0 0 0 HS_.out HL1.out HL2.out HL3.out HL4.out HL5.out 5 HC_.out (by decide)).mono ?_); clear k_; rintro z_ w_ ⟨rfl, hb_⟩; have hb2_ := hb_; have S_ := Aside0.mk (S.out.keep hb2_); clear hb2_ hb_; clear S; have S := S_; clear S_) | (go_at_call 17; (with_reducible refine (get_nil _).mono ?_); rintro z_ w_ ⟨rfl, hb_⟩; have hb2_ := hb_; have S_ := Aside0.mk (S.out.keep hb2_); clear hb2_ hb_; clear S; have S := S_; clear S_) | (go_at_call 10; (with_reducible refine (awake_calls _).mono ?_); rintro z_ w_ ⟨rfl, hb_⟩; have hb2_ := hb_; have S_ := Aside0.mk (S.out.keep hb2_); clear hb2_ hb_; clear S; have S := S_; clear S_))
  all_goals
    go_ret
    exact ⟨rfl, S.out.below⟩

set_option maxRecDepth 100000 in
set_option maxHeartbeats 8000000 in
theorem bound1f (k : Int) (h0 : 0 ≤ k) (h1 : k ≤ 255) (hk : k % 6 = 1) (w : World) : Calls Try.prog 6 #[.int .u8 k, .bool false] w fun z w' => z = .returned (.bool true) ∧ Below w.heap.size w w' := by
  have S := Aside0.mk (St.start w)
  have hk2 : Int.tmod k 6 = 1 := by rw [Int.tmod_eq_emod_of_nonneg h0]; exact hk
  obtain ⟨m, hm⟩ : ∃ m : Mo, m = ⟨⟨#[]⟩, [], List.replicate 16 (⟨#[]⟩ : ByteArray), [], [], []⟩ := ⟨_, rfl⟩
  have hs : m.nm = ⟨#[]⟩ := by rw [hm]
  have e1 : m.ex = [] := by rw [hm]
  have l1 : m.ex.length = 0 := by rw [e1]; simp
  have e2 : m.im = List.replicate 16 (⟨#[]⟩ : ByteArray) := by rw [hm]
  have l2 : m.im.length = 16 := by rw [e2]; simp
  have e3 : m.co = [] := by rw [hm]
  have l3 : m.co.length = 0 := by rw [e3]; simp
  have e4 : m.da = [] := by rw [hm]
  have l4 : m.da.length = 0 := by rw [e4]; simp
  have e5 : m.re = [] := by rw [hm]
  have l5 : m.re.length = 0 := by rw [e5]; simp
  have hchk : m.chk = 0 := by rw [hm]; unfold Mo.chk; simp only; decide +kernel
  have HS_ := Aside0.mk hs
  have HC_ := Aside0.mk hchk
  have HE1 := Aside0.mk e1
  have HE2 := Aside0.mk e2
  have HE3 := Aside0.mk e3
  have HE4 := Aside0.mk e4
  have HE5 := Aside0.mk e5
  have HL1 := Aside0.mk l1
  have HL2 := Aside0.mk l2
  have HL3 := Aside0.mk l3
  have HL4 := Aside0.mk l4
  have HL5 := Aside0.mk l5
  have hwf : m.Wf := by
    refine ⟨fun x hx => ?_, fun x hx => ?_, fun x hx => ?_⟩
    · rw [e3] at hx; cases hx
    · rw [e4] at hx; cases hx
    · rw [e5] at hx; cases hx
  obtain ⟨en, hen⟩ : ∃ en, m.enc = en := ⟨_, rfl⟩
  have hl : Lies m en := ⟨hchk, hwf, hen⟩
  have HL := Aside0.mk hl
  have few := hl.few
  clear hen hl hwf
  clear hm hs hchk e1 l1 e2 l2 e3 l3 e4 l4 e5 l5
  go_enter Try.func6, Try.ntmps6
  go_wp2_with (first | ((with_reducible refine gate_dst (N := 29) rfl ?_); refine ev_make (d := Kd.string) 9 (.string ⟨#[]⟩) 16 (⟨#[]⟩ : ByteArray) 16 m.im (by exact HE2.out) S rfl 29 rfl rfl rfl rfl Try.underlying22 infz9 rfl (by decide) (by decide) rfl (fun W b => rfl) (by decide) ?_; intro A29 c29 w_ S_; clear S; have S := S_; clear S_) | ((with_reducible refine gate_dst (N := 6) rfl ?_); refine ev_alloc #[.string ⟨#[]⟩, .slice none 0 0, .slice none 0 0, .slice none 0 0, .slice none 0 0, .slice none 0 0] rfl S ?_ 6 rfl rfl z26 ?_; (first | exact want0 rfl | exact want1 rfl rfl rfl rfl); intro g6 w6 S_; clear S; have S := S_; clear S_) | (refine ev_put1 S ?_ rfl rfl s22 rfl rfl (by repeat (first | exact Spot.here _ _ | apply Spot.there)) ?_ ?_ ?_; (first | exact want0 rfl | exact want1 rfl rfl rfl rfl); rfl; rfl; intro w_ S_; simp only [putAt, List.set_cons_zero, List.set_cons_succ] at S_; clear S; have S := S_; clear S_) | (refine ev_put1 S ?_ rfl rfl s23 rfl rfl (by repeat (first | exact Spot.here _ _ | apply Spot.there)) ?_ ?_ ?_; (first | exact want0 rfl | exact want1 rfl rfl rfl rfl); rfl; rfl; intro w_ S_; simp only [putAt, List.set_cons_zero, List.set_cons_succ] at S_; clear S; have S := S_; clear S_) | (refine ev_put1 S ?_ rfl rfl s24 rfl rfl (by repeat (first | exact Spot.here _ _ | apply Spot.there)) ?_ ?_ ?_; (first | exact want0 rfl | exact want1 rfl rfl rfl rfl); rfl; rfl; intro w_ S_; simp only [putAt, List.set_cons_zero, List.set_cons_succ] at S_; clear S; have S := S_; clear S_) | (refine ev_put1 S ?_ rfl rfl s9 rfl rfl (by repeat (first | exact Spot.here _ _ | apply Spot.there)) ?_ ?_ ?_; (first | exact want0 rfl | exact want1 rfl rfl rfl rfl); rfl; rfl; intro w_ S_; simp only [putAt, List.set_cons_zero, List.set_cons_succ] at S_; clear S; have S := S_; clear S_) | (refine ev_owns (vs := [_, _, _, _, _, _]) S ?_ rfl m26 rfl (by repeat (first | exact Spot.here _ _ | apply Spot.there)) (by exact rfl) ?_; (first | exact want0 rfl | exact want1 rfl rfl rfl rfl)) | ((with_reducible refine gate_dst (N := 9) rfl ?_); refine ev_alloc #[.string ⟨#[]⟩, .slice none 0 0, .slice none 0 0, .slice none 0 0, .slice none 0 0, .slice none 0 0] rfl S ?_ 9 rfl rfl z26 ?_; (first | exact want0 rfl | exact want1 rfl rfl rfl rfl); intro g9 w9 S_; clear S; have S := S_; clear S_) | (refine ev_puts S ?_ rfl rfl s26 rfl rfl (by repeat (first | exact Spot.here _ _ | apply Spot.there)) rfl ?_ ?_ ?_; (first | exact want0 rfl | exact want1 rfl rfl rfl rfl); rfl; rfl; intro w_ S_; simp only [putAt, List.set_cons_zero, List.set_cons_succ] at S_; clear S; have S := S_; clear S_) | (go_at_call 12; have k_ : Md _ m.nm none 0 m.ex A29 c29 m.im none 0 m.co none 0 m.da none 0 m.re := ⟨nilC HE1.out, nilL HE1.out, Ow.reads (pred_at S.out (a := Ow Kd.string 9 A29 c29 m.im) (by repeat (first | exact Spot.here _ _ | apply Spot.there))), Ow.cap (pred_at S.out (a := Ow Kd.string 9 A29 c29 m.im) (by repeat (first | exact Spot.here _ _ | apply Spot.there))), nilC HE3.out, nilL HE3.out, nilC HE4.out, nilL HE4.out, nilC HE5.out, nilL HE5.out⟩; (with_reducible refine (put_moL m none 0 A29 c29 none 0 none 0 none 0 _ k_ ⟨#[]⟩ 0 16 0 0 0 HS_.out HL1.out HL2.out HL3.out HL4.out HL5.out HC_.out en HL.out.enc).mono ?_); clear k_; rintro z_ w_ ⟨Ab, cb, rfl, h1_, h2_, hb_⟩; have S_ := Aside0.mk (St.add S.out hb_ _ h1_ h2_); clear h1_ h2_ hb_; clear S; have S := S_; clear S_) | (go_at_call 17; (with_reducible refine (get_yes Ab cb en _ (Ow.reads (pred_at S.out (a := Ow (Kd.int .u8) 5 Ab cb en) (by repeat (first | exact Spot.here _ _ | apply Spot.there)))) (Ow.cap (pred_at S.out (a := Ow (Kd.int .u8) 5 Ab cb en) (by repeat (first | exact Spot.here _ _ | apply Spot.there)))) m HL.out).mono ?_); rintro z_ w_ ⟨⟨Az1, cz1, Az2, cz2, Az3, cz3, Az4, cz4, Az5, cz5, rfl, p1_, p2_, p3_, p4_, p5_, n1_, n2_, n3_, n4_, n5_, ap_⟩, hb_⟩; have S_ := Aside0.mk (St.add S.out hb_ (MoA m Az1 cz1 Az2 cz2 Az3 cz3 Az4 cz4 Az5 cz5) (MoA.mk p1_ p2_ p3_ p4_ p5_) (MoA.new n1_ n2_ n3_ n4_ n5_)); clear p1_ p2_ p3_ p4_ p5_ n1_ n2_ n3_ n4_ n5_ hb_ ap_; clear S; have S := S_; clear S_) | (go_at_call 19; have k_ : Md _ m.nm none 0 m.ex A29 c29 m.im none 0 m.co none 0 m.da none 0 m.re := ⟨nilC HE1.out, nilL HE1.out, Ow.reads (pred_at S.out (a := Ow Kd.string 9 A29 c29 m.im) (by repeat (first | exact Spot.here _ _ | apply Spot.there))), Ow.cap (pred_at S.out (a := Ow Kd.string 9 A29 c29 m.im) (by repeat (first | exact Spot.here _ _ | apply Spot.there))), nilC HE3.out, nilL HE3.out, nilC HE4.out, nilL HE4.out, nilC HE5.out, nilL HE5.out⟩; (with_reducible refine (same_moL m Az1 cz1 Az2 cz2 Az3 cz3 Az4 cz4 Az5 cz5 none 0 A29 c29 none 0 none 0 none 0 _ (MoA.md (pred_at S.out (a := MoA m Az1 cz1 Az2 cz2 Az3 cz3 Az4 cz4 Az5 cz5) (by repeat (first | exact Spot.here _ _ | apply Spot.there)))) k_ few ⟨#[]⟩ 0 16 0 0 0 HS_.out HL1.out HL2.out HL3.out HL4.out HL5.out).mono ?_); clear k_; rintro z_ w_ ⟨rfl, hb_⟩; have hb2_ := hb_; have S_ := Aside0.mk (S.out.keep hb2_); clear hb2_ hb_; clear S; have S := S_; clear S_) | (go_at_call 10; (with_reducible refine (awake_calls _).mono ?_); rintro z_ w_ ⟨rfl, hb_⟩; have hb2_ := hb_; have S_ := Aside0.mk (S.out.keep hb2_); clear hb2_ hb_; clear S; have S := S_; clear S_))
  all_goals
    go_ret
    exact ⟨rfl, S.out.below⟩

set_option maxRecDepth 100000 in
set_option maxHeartbeats 8000000 in
theorem bound1t (k : Int) (h0 : 0 ≤ k) (h1 : k ≤ 255) (hk : k % 6 = 1) (w : World) : Calls Try.prog 6 #[.int .u8 k, .bool true] w fun z w' => z = .returned (.bool true) ∧ Below w.heap.size w w' := by
  have S := Aside0.mk (St.start w)
  have hk2 : Int.tmod k 6 = 1 := by rw [Int.tmod_eq_emod_of_nonneg h0]; exact hk
  obtain ⟨m, hm⟩ : ∃ m : Mo, m = ⟨⟨#[]⟩, [], List.replicate 17 (⟨#[]⟩ : ByteArray), [], [], []⟩ := ⟨_, rfl⟩
  have hs : m.nm = ⟨#[]⟩ := by rw [hm]
  have e1 : m.ex = [] := by rw [hm]
  have l1 : m.ex.length = 0 := by rw [e1]; simp
  have e2 : m.im = List.replicate 17 (⟨#[]⟩ : ByteArray) := by rw [hm]
  have l2 : m.im.length = 17 := by rw [e2]; simp
  have e3 : m.co = [] := by rw [hm]
  have l3 : m.co.length = 0 := by rw [e3]; simp
  have e4 : m.da = [] := by rw [hm]
  have l4 : m.da.length = 0 := by rw [e4]; simp
  have e5 : m.re = [] := by rw [hm]
  have l5 : m.re.length = 0 := by rw [e5]; simp
  have hchk : m.chk = 5 := by rw [hm]; unfold Mo.chk; simp only; decide +kernel
  have HS_ := Aside0.mk hs
  have HC_ := Aside0.mk hchk
  have HE1 := Aside0.mk e1
  have HE2 := Aside0.mk e2
  have HE3 := Aside0.mk e3
  have HE4 := Aside0.mk e4
  have HE5 := Aside0.mk e5
  have HL1 := Aside0.mk l1
  have HL2 := Aside0.mk l2
  have HL3 := Aside0.mk l3
  have HL4 := Aside0.mk l4
  have HL5 := Aside0.mk l5
  clear hm hs hchk e1 l1 e2 l2 e3 l3 e4 l4 e5 l5
  go_enter Try.func6, Try.ntmps6
  go_wp2_with (first | ((with_reducible refine gate_dst (N := 29) rfl ?_); refine ev_make (d := Kd.string) 9 (.string ⟨#[]⟩) 16 (⟨#[]⟩ : ByteArray) 17 m.im (by exact HE2.out) S rfl 29 rfl rfl rfl rfl Try.underlying22 infz9 rfl (by decide) (by decide) rfl (fun W b => rfl) (by decide) ?_; intro A29 c29 w_ S_; clear S; have S := S_; clear S_) | ((with_reducible refine gate_dst (N := 6) rfl ?_); refine ev_alloc #[.string ⟨#[]⟩, .slice none 0 0, .slice none 0 0, .slice none 0 0, .slice none 0 0, .slice none 0 0] rfl S ?_ 6 rfl rfl z26 ?_; (first | exact want0 rfl | exact want1 rfl rfl rfl rfl); intro g6 w6 S_; clear S; have S := S_; clear S_) | (refine ev_put1 S ?_ rfl rfl s22 rfl rfl (by repeat (first | exact Spot.here _ _ | apply Spot.there)) ?_ ?_ ?_; (first | exact want0 rfl | exact want1 rfl rfl rfl rfl); rfl; rfl; intro w_ S_; simp only [putAt, List.set_cons_zero, List.set_cons_succ] at S_; clear S; have S := S_; clear S_) | (refine ev_put1 S ?_ rfl rfl s23 rfl rfl (by repeat (first | exact Spot.here _ _ | apply Spot.there)) ?_ ?_ ?_; (first | exact want0 rfl | exact want1 rfl rfl rfl rfl); rfl; rfl; intro w_ S_; simp only [putAt, List.set_cons_zero, List.set_cons_succ] at S_; clear S; have S := S_; clear S_) | (refine ev_put1 S ?_ rfl rfl s24 rfl rfl (by repeat (first | exact Spot.here _ _ | apply Spot.there)) ?_ ?_ ?_; (first | exact want0 rfl | exact want1 rfl rfl rfl rfl); rfl; rfl; intro w_ S_; simp only [putAt, List.set_cons_zero, List.set_cons_succ] at S_; clear S; have S := S_; clear S_) | (refine ev_put1 S ?_ rfl rfl s9 rfl rfl (by repeat (first | exact Spot.here _ _ | apply Spot.there)) ?_ ?_ ?_; (first | exact want0 rfl | exact want1 rfl rfl rfl rfl); rfl; rfl; intro w_ S_; simp only [putAt, List.set_cons_zero, List.set_cons_succ] at S_; clear S; have S := S_; clear S_) | (refine ev_owns (vs := [_, _, _, _, _, _]) S ?_ rfl m26 rfl (by repeat (first | exact Spot.here _ _ | apply Spot.there)) (by exact rfl) ?_; (first | exact want0 rfl | exact want1 rfl rfl rfl rfl)) | ((with_reducible refine gate_dst (N := 9) rfl ?_); refine ev_alloc #[.string ⟨#[]⟩, .slice none 0 0, .slice none 0 0, .slice none 0 0, .slice none 0 0, .slice none 0 0] rfl S ?_ 9 rfl rfl z26 ?_; (first | exact want0 rfl | exact want1 rfl rfl rfl rfl); intro g9 w9 S_; clear S; have S := S_; clear S_) | (refine ev_puts S ?_ rfl rfl s26 rfl rfl (by repeat (first | exact Spot.here _ _ | apply Spot.there)) rfl ?_ ?_ ?_; (first | exact want0 rfl | exact want1 rfl rfl rfl rfl); rfl; rfl; intro w_ S_; simp only [putAt, List.set_cons_zero, List.set_cons_succ] at S_; clear S; have S := S_; clear S_) | (go_at_call 12; have k_ : Md _ m.nm none 0 m.ex A29 c29 m.im none 0 m.co none 0 m.da none 0 m.re := ⟨nilC HE1.out, nilL HE1.out, Ow.reads (pred_at S.out (a := Ow Kd.string 9 A29 c29 m.im) (by repeat (first | exact Spot.here _ _ | apply Spot.there))), Ow.cap (pred_at S.out (a := Ow Kd.string 9 A29 c29 m.im) (by repeat (first | exact Spot.here _ _ | apply Spot.there))), nilC HE3.out, nilL HE3.out, nilC HE4.out, nilL HE4.out, nilC HE5.out, nilL HE5.out⟩; (with_reducible refine (putno_moL m none 0 A29 c29 none 0 none 0 none 0 _ k_ ⟨#[]⟩ 0 17 0 0 0 HS_.out HL1.out HL2.out HL3.out HL4.out HL5.out 5 HC_.out (by decide)).mono ?_); clear k_; rintro z_ w_ ⟨rfl, hb_⟩; have hb2_ := hb_; have S_ := Aside0.mk (S.out.keep hb2_); clear hb2_ hb_; clear S; have S := S_; clear S_) | (go_at_call 17; (with_reducible refine (get_nil _).mono ?_); rintro z_ w_ ⟨rfl, hb_⟩; have hb2_ := hb_; have S_ := Aside0.mk (S.out.keep hb2_); clear hb2_ hb_; clear S; have S := S_; clear S_) | (go_at_call 10; (with_reducible refine (awake_calls _).mono ?_); rintro z_ w_ ⟨rfl, hb_⟩; have hb2_ := hb_; have S_ := Aside0.mk (S.out.keep hb2_); clear hb2_ hb_; clear S; have S := S_; clear S_))
  all_goals
    go_ret
    exact ⟨rfl, S.out.below⟩

set_option maxRecDepth 100000 in
set_option maxHeartbeats 8000000 in
theorem bound2f (k : Int) (h0 : 0 ≤ k) (h1 : k ≤ 255) (hk : k % 6 = 2) (w : World) : Calls Try.prog 6 #[.int .u8 k, .bool false] w fun z w' => z = .returned (.bool true) ∧ Below w.heap.size w w' := by
  have S := Aside0.mk (St.start w)
  have hk2 : Int.tmod k 6 = 2 := by rw [Int.tmod_eq_emod_of_nonneg h0]; exact hk
  obtain ⟨m, hm⟩ : ∃ m : Mo, m = ⟨⟨#[]⟩, [], [], List.replicate 512 (0 : Int), [], []⟩ := ⟨_, rfl⟩
  have hs : m.nm = ⟨#[]⟩ := by rw [hm]
  have e1 : m.ex = [] := by rw [hm]
  have l1 : m.ex.length = 0 := by rw [e1]; simp
  have e2 : m.im = [] := by rw [hm]
  have l2 : m.im.length = 0 := by rw [e2]; simp
  have e3 : m.co = List.replicate 512 (0 : Int) := by rw [hm]
  have l3 : m.co.length = 512 := by rw [e3]; simp
  have e4 : m.da = [] := by rw [hm]
  have l4 : m.da.length = 0 := by rw [e4]; simp
  have e5 : m.re = [] := by rw [hm]
  have l5 : m.re.length = 0 := by rw [e5]; simp
  have hchk : m.chk = 0 := by rw [hm]; unfold Mo.chk; simp only; decide +kernel
  have HS_ := Aside0.mk hs
  have HC_ := Aside0.mk hchk
  have HE1 := Aside0.mk e1
  have HE2 := Aside0.mk e2
  have HE3 := Aside0.mk e3
  have HE4 := Aside0.mk e4
  have HE5 := Aside0.mk e5
  have HL1 := Aside0.mk l1
  have HL2 := Aside0.mk l2
  have HL3 := Aside0.mk l3
  have HL4 := Aside0.mk l4
  have HL5 := Aside0.mk l5
  have hwf : m.Wf := by
    refine ⟨fun x hx => ?_, fun x hx => ?_, fun x hx => ?_⟩
    · rw [e3] at hx; have := List.eq_of_mem_replicate hx; subst this; decide
    · rw [e4] at hx; cases hx
    · rw [e5] at hx; cases hx
  obtain ⟨en, hen⟩ : ∃ en, m.enc = en := ⟨_, rfl⟩
  have hl : Lies m en := ⟨hchk, hwf, hen⟩
  have HL := Aside0.mk hl
  have few := hl.few
  clear hen hl hwf
  clear hm hs hchk e1 l1 e2 l2 e3 l3 e4 l4 e5 l5
  go_enter Try.func6, Try.ntmps6
  go_wp2_with (first | ((with_reducible refine gate_dst (N := 35) rfl ?_); refine ev_make (d := (Kd.int .u32)) 43 (.int .u32 0) 4 (0 : Int) 512 m.co (by exact HE3.out) S rfl 35 rfl rfl rfl rfl Try.underlying23 infz43 rfl (by decide) (by decide) rfl (fun W b => rfl) (by decide) ?_; intro A35 c35 w_ S_; clear S; have S := S_; clear S_) | ((with_reducible refine gate_dst (N := 6) rfl ?_); refine ev_alloc #[.string ⟨#[]⟩, .slice none 0 0, .slice none 0 0, .slice none 0 0, .slice none 0 0, .slice none 0 0] rfl S ?_ 6 rfl rfl z26 ?_; (first | exact want0 rfl | exact want1 rfl rfl rfl rfl); intro g6 w6 S_; clear S; have S := S_; clear S_) | (refine ev_put1 S ?_ rfl rfl s22 rfl rfl (by repeat (first | exact Spot.here _ _ | apply Spot.there)) ?_ ?_ ?_; (first | exact want0 rfl | exact want1 rfl rfl rfl rfl); rfl; rfl; intro w_ S_; simp only [putAt, List.set_cons_zero, List.set_cons_succ] at S_; clear S; have S := S_; clear S_) | (refine ev_put1 S ?_ rfl rfl s23 rfl rfl (by repeat (first | exact Spot.here _ _ | apply Spot.there)) ?_ ?_ ?_; (first | exact want0 rfl | exact want1 rfl rfl rfl rfl); rfl; rfl; intro w_ S_; simp only [putAt, List.set_cons_zero, List.set_cons_succ] at S_; clear S; have S := S_; clear S_) | (refine ev_put1 S ?_ rfl rfl s24 rfl rfl (by repeat (first | exact Spot.here _ _ | apply Spot.there)) ?_ ?_ ?_; (first | exact want0 rfl | exact want1 rfl rfl rfl rfl); rfl; rfl; intro w_ S_; simp only [putAt, List.set_cons_zero, List.set_cons_succ] at S_; clear S; have S := S_; clear S_) | (refine ev_put1 S ?_ rfl rfl s9 rfl rfl (by repeat (first | exact Spot.here _ _ | apply Spot.there)) ?_ ?_ ?_; (first | exact want0 rfl | exact want1 rfl rfl rfl rfl); rfl; rfl; intro w_ S_; simp only [putAt, List.set_cons_zero, List.set_cons_succ] at S_; clear S; have S := S_; clear S_) | (refine ev_owns (vs := [_, _, _, _, _, _]) S ?_ rfl m26 rfl (by repeat (first | exact Spot.here _ _ | apply Spot.there)) (by exact rfl) ?_; (first | exact want0 rfl | exact want1 rfl rfl rfl rfl)) | ((with_reducible refine gate_dst (N := 9) rfl ?_); refine ev_alloc #[.string ⟨#[]⟩, .slice none 0 0, .slice none 0 0, .slice none 0 0, .slice none 0 0, .slice none 0 0] rfl S ?_ 9 rfl rfl z26 ?_; (first | exact want0 rfl | exact want1 rfl rfl rfl rfl); intro g9 w9 S_; clear S; have S := S_; clear S_) | (refine ev_puts S ?_ rfl rfl s26 rfl rfl (by repeat (first | exact Spot.here _ _ | apply Spot.there)) rfl ?_ ?_ ?_; (first | exact want0 rfl | exact want1 rfl rfl rfl rfl); rfl; rfl; intro w_ S_; simp only [putAt, List.set_cons_zero, List.set_cons_succ] at S_; clear S; have S := S_; clear S_) | (go_at_call 12; have k_ : Md _ m.nm none 0 m.ex none 0 m.im A35 c35 m.co none 0 m.da none 0 m.re := ⟨nilC HE1.out, nilL HE1.out, nilC HE2.out, nilL HE2.out, Ow.reads (pred_at S.out (a := Ow (Kd.int .u32) 43 A35 c35 m.co) (by repeat (first | exact Spot.here _ _ | apply Spot.there))), Ow.cap (pred_at S.out (a := Ow (Kd.int .u32) 43 A35 c35 m.co) (by repeat (first | exact Spot.here _ _ | apply Spot.there))), nilC HE4.out, nilL HE4.out, nilC HE5.out, nilL HE5.out⟩; (with_reducible refine (put_moL m none 0 none 0 A35 c35 none 0 none 0 _ k_ ⟨#[]⟩ 0 0 512 0 0 HS_.out HL1.out HL2.out HL3.out HL4.out HL5.out HC_.out en HL.out.enc).mono ?_); clear k_; rintro z_ w_ ⟨Ab, cb, rfl, h1_, h2_, hb_⟩; have S_ := Aside0.mk (St.add S.out hb_ _ h1_ h2_); clear h1_ h2_ hb_; clear S; have S := S_; clear S_) | (go_at_call 17; (with_reducible refine (get_yes Ab cb en _ (Ow.reads (pred_at S.out (a := Ow (Kd.int .u8) 5 Ab cb en) (by repeat (first | exact Spot.here _ _ | apply Spot.there)))) (Ow.cap (pred_at S.out (a := Ow (Kd.int .u8) 5 Ab cb en) (by repeat (first | exact Spot.here _ _ | apply Spot.there)))) m HL.out).mono ?_); rintro z_ w_ ⟨⟨Az1, cz1, Az2, cz2, Az3, cz3, Az4, cz4, Az5, cz5, rfl, p1_, p2_, p3_, p4_, p5_, n1_, n2_, n3_, n4_, n5_, ap_⟩, hb_⟩; have S_ := Aside0.mk (St.add S.out hb_ (MoA m Az1 cz1 Az2 cz2 Az3 cz3 Az4 cz4 Az5 cz5) (MoA.mk p1_ p2_ p3_ p4_ p5_) (MoA.new n1_ n2_ n3_ n4_ n5_)); clear p1_ p2_ p3_ p4_ p5_ n1_ n2_ n3_ n4_ n5_ hb_ ap_; clear S; have S := S_; clear S_) | (go_at_call 19; have k_ : Md _ m.nm none 0 m.ex none 0 m.im A35 c35 m.co none 0 m.da none 0 m.re := ⟨nilC HE1.out, nilL HE1.out, nilC HE2.out, nilL HE2.out, Ow.reads (pred_at S.out (a := Ow (Kd.int .u32) 43 A35 c35 m.co) (by repeat (first | exact Spot.here _ _ | apply Spot.there))), Ow.cap (pred_at S.out (a := Ow (Kd.int .u32) 43 A35 c35 m.co) (by repeat (first | exact Spot.here _ _ | apply Spot.there))), nilC HE4.out, nilL HE4.out, nilC HE5.out, nilL HE5.out⟩; (with_reducible refine (same_moL m Az1 cz1 Az2 cz2 Az3 cz3 Az4 cz4 Az5 cz5 none 0 none 0 A35 c35 none 0 none 0 _ (MoA.md (pred_at S.out (a := MoA m Az1 cz1 Az2 cz2 Az3 cz3 Az4 cz4 Az5 cz5) (by repeat (first | exact Spot.here _ _ | apply Spot.there)))) k_ few ⟨#[]⟩ 0 0 512 0 0 HS_.out HL1.out HL2.out HL3.out HL4.out HL5.out).mono ?_); clear k_; rintro z_ w_ ⟨rfl, hb_⟩; have hb2_ := hb_; have S_ := Aside0.mk (S.out.keep hb2_); clear hb2_ hb_; clear S; have S := S_; clear S_) | (go_at_call 10; (with_reducible refine (awake_calls _).mono ?_); rintro z_ w_ ⟨rfl, hb_⟩; have hb2_ := hb_; have S_ := Aside0.mk (S.out.keep hb2_); clear hb2_ hb_; clear S; have S := S_; clear S_))
  all_goals
    go_ret
    exact ⟨rfl, S.out.below⟩

set_option maxRecDepth 100000 in
set_option maxHeartbeats 8000000 in
theorem bound2t (k : Int) (h0 : 0 ≤ k) (h1 : k ≤ 255) (hk : k % 6 = 2) (w : World) : Calls Try.prog 6 #[.int .u8 k, .bool true] w fun z w' => z = .returned (.bool true) ∧ Below w.heap.size w w' := by
  have S := Aside0.mk (St.start w)
  have hk2 : Int.tmod k 6 = 2 := by rw [Int.tmod_eq_emod_of_nonneg h0]; exact hk
  obtain ⟨m, hm⟩ : ∃ m : Mo, m = ⟨⟨#[]⟩, [], [], List.replicate 513 (0 : Int), [], []⟩ := ⟨_, rfl⟩
  have hs : m.nm = ⟨#[]⟩ := by rw [hm]
  have e1 : m.ex = [] := by rw [hm]
  have l1 : m.ex.length = 0 := by rw [e1]; simp
  have e2 : m.im = [] := by rw [hm]
  have l2 : m.im.length = 0 := by rw [e2]; simp
  have e3 : m.co = List.replicate 513 (0 : Int) := by rw [hm]
  have l3 : m.co.length = 513 := by rw [e3]; simp
  have e4 : m.da = [] := by rw [hm]
  have l4 : m.da.length = 0 := by rw [e4]; simp
  have e5 : m.re = [] := by rw [hm]
  have l5 : m.re.length = 0 := by rw [e5]; simp
  have hchk : m.chk = 5 := by rw [hm]; unfold Mo.chk; simp only; decide +kernel
  have HS_ := Aside0.mk hs
  have HC_ := Aside0.mk hchk
  have HE1 := Aside0.mk e1
  have HE2 := Aside0.mk e2
  have HE3 := Aside0.mk e3
  have HE4 := Aside0.mk e4
  have HE5 := Aside0.mk e5
  have HL1 := Aside0.mk l1
  have HL2 := Aside0.mk l2
  have HL3 := Aside0.mk l3
  have HL4 := Aside0.mk l4
  have HL5 := Aside0.mk l5
  clear hm hs hchk e1 l1 e2 l2 e3 l3 e4 l4 e5 l5
  go_enter Try.func6, Try.ntmps6
  go_wp2_with (first | ((with_reducible refine gate_dst (N := 35) rfl ?_); refine ev_make (d := (Kd.int .u32)) 43 (.int .u32 0) 4 (0 : Int) 513 m.co (by exact HE3.out) S rfl 35 rfl rfl rfl rfl Try.underlying23 infz43 rfl (by decide) (by decide) rfl (fun W b => rfl) (by decide) ?_; intro A35 c35 w_ S_; clear S; have S := S_; clear S_) | ((with_reducible refine gate_dst (N := 6) rfl ?_); refine ev_alloc #[.string ⟨#[]⟩, .slice none 0 0, .slice none 0 0, .slice none 0 0, .slice none 0 0, .slice none 0 0] rfl S ?_ 6 rfl rfl z26 ?_; (first | exact want0 rfl | exact want1 rfl rfl rfl rfl); intro g6 w6 S_; clear S; have S := S_; clear S_) | (refine ev_put1 S ?_ rfl rfl s22 rfl rfl (by repeat (first | exact Spot.here _ _ | apply Spot.there)) ?_ ?_ ?_; (first | exact want0 rfl | exact want1 rfl rfl rfl rfl); rfl; rfl; intro w_ S_; simp only [putAt, List.set_cons_zero, List.set_cons_succ] at S_; clear S; have S := S_; clear S_) | (refine ev_put1 S ?_ rfl rfl s23 rfl rfl (by repeat (first | exact Spot.here _ _ | apply Spot.there)) ?_ ?_ ?_; (first | exact want0 rfl | exact want1 rfl rfl rfl rfl); rfl; rfl; intro w_ S_; simp only [putAt, List.set_cons_zero, List.set_cons_succ] at S_; clear S; have S := S_; clear S_) | (refine ev_put1 S ?_ rfl rfl s24 rfl rfl (by repeat (first | exact Spot.here _ _ | apply Spot.there)) ?_ ?_ ?_; (first | exact want0 rfl | exact want1 rfl rfl rfl rfl); rfl; rfl; intro w_ S_; simp only [putAt, List.set_cons_zero, List.set_cons_succ] at S_; clear S; have S := S_; clear S_) | (refine ev_put1 S ?_ rfl rfl s9 rfl rfl (by repeat (first | exact Spot.here _ _ | apply Spot.there)) ?_ ?_ ?_; (first | exact want0 rfl | exact want1 rfl rfl rfl rfl); rfl; rfl; intro w_ S_; simp only [putAt, List.set_cons_zero, List.set_cons_succ] at S_; clear S; have S := S_; clear S_) | (refine ev_owns (vs := [_, _, _, _, _, _]) S ?_ rfl m26 rfl (by repeat (first | exact Spot.here _ _ | apply Spot.there)) (by exact rfl) ?_; (first | exact want0 rfl | exact want1 rfl rfl rfl rfl)) | ((with_reducible refine gate_dst (N := 9) rfl ?_); refine ev_alloc #[.string ⟨#[]⟩, .slice none 0 0, .slice none 0 0, .slice none 0 0, .slice none 0 0, .slice none 0 0] rfl S ?_ 9 rfl rfl z26 ?_; (first | exact want0 rfl | exact want1 rfl rfl rfl rfl); intro g9 w9 S_; clear S; have S := S_; clear S_) | (refine ev_puts S ?_ rfl rfl s26 rfl rfl (by repeat (first | exact Spot.here _ _ | apply Spot.there)) rfl ?_ ?_ ?_; (first | exact want0 rfl | exact want1 rfl rfl rfl rfl); rfl; rfl; intro w_ S_; simp only [putAt, List.set_cons_zero, List.set_cons_succ] at S_; clear S; have S := S_; clear S_) | (go_at_call 12; have k_ : Md _ m.nm none 0 m.ex none 0 m.im A35 c35 m.co none 0 m.da none 0 m.re := ⟨nilC HE1.out, nilL HE1.out, nilC HE2.out, nilL HE2.out, Ow.reads (pred_at S.out (a := Ow (Kd.int .u32) 43 A35 c35 m.co) (by repeat (first | exact Spot.here _ _ | apply Spot.there))), Ow.cap (pred_at S.out (a := Ow (Kd.int .u32) 43 A35 c35 m.co) (by repeat (first | exact Spot.here _ _ | apply Spot.there))), nilC HE4.out, nilL HE4.out, nilC HE5.out, nilL HE5.out⟩; (with_reducible refine (putno_moL m none 0 none 0 A35 c35 none 0 none 0 _ k_ ⟨#[]⟩ 0 0 513 0 0 HS_.out HL1.out HL2.out HL3.out HL4.out HL5.out 5 HC_.out (by decide)).mono ?_); clear k_; rintro z_ w_ ⟨rfl, hb_⟩; have hb2_ := hb_; have S_ := Aside0.mk (S.out.keep hb2_); clear hb2_ hb_; clear S; have S := S_; clear S_) | (go_at_call 17; (with_reducible refine (get_nil _).mono ?_); rintro z_ w_ ⟨rfl, hb_⟩; have hb2_ := hb_; have S_ := Aside0.mk (S.out.keep hb2_); clear hb2_ hb_; clear S; have S := S_; clear S_) | (go_at_call 10; (with_reducible refine (awake_calls _).mono ?_); rintro z_ w_ ⟨rfl, hb_⟩; have hb2_ := hb_; have S_ := Aside0.mk (S.out.keep hb2_); clear hb2_ hb_; clear S; have S := S_; clear S_))
  all_goals
    go_ret
    exact ⟨rfl, S.out.below⟩

set_option maxRecDepth 100000 in
set_option maxHeartbeats 8000000 in
theorem bound3f (k : Int) (h0 : 0 ≤ k) (h1 : k ≤ 255) (hk : k % 6 = 3) (w : World) : Calls Try.prog 6 #[.int .u8 k, .bool false] w fun z w' => z = .returned (.bool true) ∧ Below w.heap.size w w' := by
  have S := Aside0.mk (St.start w)
  have hk2 : Int.tmod k 6 = 3 := by rw [Int.tmod_eq_emod_of_nonneg h0]; exact hk
  obtain ⟨m, hm⟩ : ∃ m : Mo, m = ⟨⟨#[]⟩, [], [], [], List.replicate 128 (0 : Int), []⟩ := ⟨_, rfl⟩
  have hs : m.nm = ⟨#[]⟩ := by rw [hm]
  have e1 : m.ex = [] := by rw [hm]
  have l1 : m.ex.length = 0 := by rw [e1]; simp
  have e2 : m.im = [] := by rw [hm]
  have l2 : m.im.length = 0 := by rw [e2]; simp
  have e3 : m.co = [] := by rw [hm]
  have l3 : m.co.length = 0 := by rw [e3]; simp
  have e4 : m.da = List.replicate 128 (0 : Int) := by rw [hm]
  have l4 : m.da.length = 128 := by rw [e4]; simp
  have e5 : m.re = [] := by rw [hm]
  have l5 : m.re.length = 0 := by rw [e5]; simp
  have hchk : m.chk = 0 := by rw [hm]; unfold Mo.chk; simp only; decide +kernel
  have HS_ := Aside0.mk hs
  have HC_ := Aside0.mk hchk
  have HE1 := Aside0.mk e1
  have HE2 := Aside0.mk e2
  have HE3 := Aside0.mk e3
  have HE4 := Aside0.mk e4
  have HE5 := Aside0.mk e5
  have HL1 := Aside0.mk l1
  have HL2 := Aside0.mk l2
  have HL3 := Aside0.mk l3
  have HL4 := Aside0.mk l4
  have HL5 := Aside0.mk l5
  have hwf : m.Wf := by
    refine ⟨fun x hx => ?_, fun x hx => ?_, fun x hx => ?_⟩
    · rw [e3] at hx; cases hx
    · rw [e4] at hx; have := List.eq_of_mem_replicate hx; subst this; decide
    · rw [e5] at hx; cases hx
  obtain ⟨en, hen⟩ : ∃ en, m.enc = en := ⟨_, rfl⟩
  have hl : Lies m en := ⟨hchk, hwf, hen⟩
  have HL := Aside0.mk hl
  have few := hl.few
  clear hen hl hwf
  clear hm hs hchk e1 l1 e2 l2 e3 l3 e4 l4 e5 l5
  go_enter Try.func6, Try.ntmps6
  go_wp2_with (first | ((with_reducible refine gate_dst (N := 41) rfl ?_); refine ev_make (d := (Kd.int .u32)) 43 (.int .u32 0) 4 (0 : Int) 128 m.da (by exact HE4.out) S rfl 41 rfl rfl rfl rfl Try.underlying23 infz43 rfl (by decide) (by decide) rfl (fun W b => rfl) (by decide) ?_; intro A41 c41 w_ S_; clear S; have S := S_; clear S_) | ((with_reducible refine gate_dst (N := 6) rfl ?_); refine ev_alloc #[.string ⟨#[]⟩, .slice none 0 0, .slice none 0 0, .slice none 0 0, .slice none 0 0, .slice none 0 0] rfl S ?_ 6 rfl rfl z26 ?_; (first | exact want0 rfl | exact want1 rfl rfl rfl rfl); intro g6 w6 S_; clear S; have S := S_; clear S_) | (refine ev_put1 S ?_ rfl rfl s22 rfl rfl (by repeat (first | exact Spot.here _ _ | apply Spot.there)) ?_ ?_ ?_; (first | exact want0 rfl | exact want1 rfl rfl rfl rfl); rfl; rfl; intro w_ S_; simp only [putAt, List.set_cons_zero, List.set_cons_succ] at S_; clear S; have S := S_; clear S_) | (refine ev_put1 S ?_ rfl rfl s23 rfl rfl (by repeat (first | exact Spot.here _ _ | apply Spot.there)) ?_ ?_ ?_; (first | exact want0 rfl | exact want1 rfl rfl rfl rfl); rfl; rfl; intro w_ S_; simp only [putAt, List.set_cons_zero, List.set_cons_succ] at S_; clear S; have S := S_; clear S_) | (refine ev_put1 S ?_ rfl rfl s24 rfl rfl (by repeat (first | exact Spot.here _ _ | apply Spot.there)) ?_ ?_ ?_; (first | exact want0 rfl | exact want1 rfl rfl rfl rfl); rfl; rfl; intro w_ S_; simp only [putAt, List.set_cons_zero, List.set_cons_succ] at S_; clear S; have S := S_; clear S_) | (refine ev_put1 S ?_ rfl rfl s9 rfl rfl (by repeat (first | exact Spot.here _ _ | apply Spot.there)) ?_ ?_ ?_; (first | exact want0 rfl | exact want1 rfl rfl rfl rfl); rfl; rfl; intro w_ S_; simp only [putAt, List.set_cons_zero, List.set_cons_succ] at S_; clear S; have S := S_; clear S_) | (refine ev_owns (vs := [_, _, _, _, _, _]) S ?_ rfl m26 rfl (by repeat (first | exact Spot.here _ _ | apply Spot.there)) (by exact rfl) ?_; (first | exact want0 rfl | exact want1 rfl rfl rfl rfl)) | ((with_reducible refine gate_dst (N := 9) rfl ?_); refine ev_alloc #[.string ⟨#[]⟩, .slice none 0 0, .slice none 0 0, .slice none 0 0, .slice none 0 0, .slice none 0 0] rfl S ?_ 9 rfl rfl z26 ?_; (first | exact want0 rfl | exact want1 rfl rfl rfl rfl); intro g9 w9 S_; clear S; have S := S_; clear S_) | (refine ev_puts S ?_ rfl rfl s26 rfl rfl (by repeat (first | exact Spot.here _ _ | apply Spot.there)) rfl ?_ ?_ ?_; (first | exact want0 rfl | exact want1 rfl rfl rfl rfl); rfl; rfl; intro w_ S_; simp only [putAt, List.set_cons_zero, List.set_cons_succ] at S_; clear S; have S := S_; clear S_) | (go_at_call 12; have k_ : Md _ m.nm none 0 m.ex none 0 m.im none 0 m.co A41 c41 m.da none 0 m.re := ⟨nilC HE1.out, nilL HE1.out, nilC HE2.out, nilL HE2.out, nilC HE3.out, nilL HE3.out, Ow.reads (pred_at S.out (a := Ow (Kd.int .u32) 43 A41 c41 m.da) (by repeat (first | exact Spot.here _ _ | apply Spot.there))), Ow.cap (pred_at S.out (a := Ow (Kd.int .u32) 43 A41 c41 m.da) (by repeat (first | exact Spot.here _ _ | apply Spot.there))), nilC HE5.out, nilL HE5.out⟩; (with_reducible refine (put_moL m none 0 none 0 none 0 A41 c41 none 0 _ k_ ⟨#[]⟩ 0 0 0 128 0 HS_.out HL1.out HL2.out HL3.out HL4.out HL5.out HC_.out en HL.out.enc).mono ?_); clear k_; rintro z_ w_ ⟨Ab, cb, rfl, h1_, h2_, hb_⟩; have S_ := Aside0.mk (St.add S.out hb_ _ h1_ h2_); clear h1_ h2_ hb_; clear S; have S := S_; clear S_) | (go_at_call 17; (with_reducible refine (get_yes Ab cb en _ (Ow.reads (pred_at S.out (a := Ow (Kd.int .u8) 5 Ab cb en) (by repeat (first | exact Spot.here _ _ | apply Spot.there)))) (Ow.cap (pred_at S.out (a := Ow (Kd.int .u8) 5 Ab cb en) (by repeat (first | exact Spot.here _ _ | apply Spot.there)))) m HL.out).mono ?_); rintro z_ w_ ⟨⟨Az1, cz1, Az2, cz2, Az3, cz3, Az4, cz4, Az5, cz5, rfl, p1_, p2_, p3_, p4_, p5_, n1_, n2_, n3_, n4_, n5_, ap_⟩, hb_⟩; have S_ := Aside0.mk (St.add S.out hb_ (MoA m Az1 cz1 Az2 cz2 Az3 cz3 Az4 cz4 Az5 cz5) (MoA.mk p1_ p2_ p3_ p4_ p5_) (MoA.new n1_ n2_ n3_ n4_ n5_)); clear p1_ p2_ p3_ p4_ p5_ n1_ n2_ n3_ n4_ n5_ hb_ ap_; clear S; have S := S_; clear S_) | (go_at_call 19; have k_ : Md _ m.nm none 0 m.ex none 0 m.im none 0 m.co A41 c41 m.da none 0 m.re := ⟨nilC HE1.out, nilL HE1.out, nilC HE2.out, nilL HE2.out, nilC HE3.out, nilL HE3.out, Ow.reads (pred_at S.out (a := Ow (Kd.int .u32) 43 A41 c41 m.da) (by repeat (first | exact Spot.here _ _ | apply Spot.there))), Ow.cap (pred_at S.out (a := Ow (Kd.int .u32) 43 A41 c41 m.da) (by repeat (first | exact Spot.here _ _ | apply Spot.there))), nilC HE5.out, nilL HE5.out⟩; (with_reducible refine (same_moL m Az1 cz1 Az2 cz2 Az3 cz3 Az4 cz4 Az5 cz5 none 0 none 0 none 0 A41 c41 none 0 _ (MoA.md (pred_at S.out (a := MoA m Az1 cz1 Az2 cz2 Az3 cz3 Az4 cz4 Az5 cz5) (by repeat (first | exact Spot.here _ _ | apply Spot.there)))) k_ few ⟨#[]⟩ 0 0 0 128 0 HS_.out HL1.out HL2.out HL3.out HL4.out HL5.out).mono ?_); clear k_; rintro z_ w_ ⟨rfl, hb_⟩; have hb2_ := hb_; have S_ := Aside0.mk (S.out.keep hb2_); clear hb2_ hb_; clear S; have S := S_; clear S_) | (go_at_call 10; (with_reducible refine (awake_calls _).mono ?_); rintro z_ w_ ⟨rfl, hb_⟩; have hb2_ := hb_; have S_ := Aside0.mk (S.out.keep hb2_); clear hb2_ hb_; clear S; have S := S_; clear S_))
  all_goals
    go_ret
    exact ⟨rfl, S.out.below⟩

set_option maxRecDepth 100000 in
set_option maxHeartbeats 8000000 in
theorem bound3t (k : Int) (h0 : 0 ≤ k) (h1 : k ≤ 255) (hk : k % 6 = 3) (w : World) : Calls Try.prog 6 #[.int .u8 k, .bool true] w fun z w' => z = .returned (.bool true) ∧ Below w.heap.size w w' := by
  have S := Aside0.mk (St.start w)
  have hk2 : Int.tmod k 6 = 3 := by rw [Int.tmod_eq_emod_of_nonneg h0]; exact hk
  obtain ⟨m, hm⟩ : ∃ m : Mo, m = ⟨⟨#[]⟩, [], [], [], List.replicate 129 (0 : Int), []⟩ := ⟨_, rfl⟩
  have hs : m.nm = ⟨#[]⟩ := by rw [hm]
  have e1 : m.ex = [] := by rw [hm]
  have l1 : m.ex.length = 0 := by rw [e1]; simp
  have e2 : m.im = [] := by rw [hm]
  have l2 : m.im.length = 0 := by rw [e2]; simp
  have e3 : m.co = [] := by rw [hm]
  have l3 : m.co.length = 0 := by rw [e3]; simp
  have e4 : m.da = List.replicate 129 (0 : Int) := by rw [hm]
  have l4 : m.da.length = 129 := by rw [e4]; simp
  have e5 : m.re = [] := by rw [hm]
  have l5 : m.re.length = 0 := by rw [e5]; simp
  have hchk : m.chk = 5 := by rw [hm]; unfold Mo.chk; simp only; decide +kernel
  have HS_ := Aside0.mk hs
  have HC_ := Aside0.mk hchk
  have HE1 := Aside0.mk e1
  have HE2 := Aside0.mk e2
  have HE3 := Aside0.mk e3
  have HE4 := Aside0.mk e4
  have HE5 := Aside0.mk e5
  have HL1 := Aside0.mk l1
  have HL2 := Aside0.mk l2
  have HL3 := Aside0.mk l3
  have HL4 := Aside0.mk l4
  have HL5 := Aside0.mk l5
  clear hm hs hchk e1 l1 e2 l2 e3 l3 e4 l4 e5 l5
  go_enter Try.func6, Try.ntmps6
  go_wp2_with (first | ((with_reducible refine gate_dst (N := 41) rfl ?_); refine ev_make (d := (Kd.int .u32)) 43 (.int .u32 0) 4 (0 : Int) 129 m.da (by exact HE4.out) S rfl 41 rfl rfl rfl rfl Try.underlying23 infz43 rfl (by decide) (by decide) rfl (fun W b => rfl) (by decide) ?_; intro A41 c41 w_ S_; clear S; have S := S_; clear S_) | ((with_reducible refine gate_dst (N := 6) rfl ?_); refine ev_alloc #[.string ⟨#[]⟩, .slice none 0 0, .slice none 0 0, .slice none 0 0, .slice none 0 0, .slice none 0 0] rfl S ?_ 6 rfl rfl z26 ?_; (first | exact want0 rfl | exact want1 rfl rfl rfl rfl); intro g6 w6 S_; clear S; have S := S_; clear S_) | (refine ev_put1 S ?_ rfl rfl s22 rfl rfl (by repeat (first | exact Spot.here _ _ | apply Spot.there)) ?_ ?_ ?_; (first | exact want0 rfl | exact want1 rfl rfl rfl rfl); rfl; rfl; intro w_ S_; simp only [putAt, List.set_cons_zero, List.set_cons_succ] at S_; clear S; have S := S_; clear S_) | (refine ev_put1 S ?_ rfl rfl s23 rfl rfl (by repeat (first | exact Spot.here _ _ | apply Spot.there)) ?_ ?_ ?_; (first | exact want0 rfl | exact want1 rfl rfl rfl rfl); rfl; rfl; intro w_ S_; simp only [putAt, List.set_cons_zero, List.set_cons_succ] at S_; clear S; have S := S_; clear S_) | (refine ev_put1 S ?_ rfl rfl s24 rfl rfl (by repeat (first | exact Spot.here _ _ | apply Spot.there)) ?_ ?_ ?_; (first | exact want0 rfl | exact want1 rfl rfl rfl rfl); rfl; rfl; intro w_ S_; simp only [putAt, List.set_cons_zero, List.set_cons_succ] at S_; clear S; have S := S_; clear S_) | (refine ev_put1 S ?_ rfl rfl s9 rfl rfl (by repeat (first | exact Spot.here _ _ | apply Spot.there)) ?_ ?_ ?_; (first | exact want0 rfl | exact want1 rfl rfl rfl rfl); rfl; rfl; intro w_ S_; simp only [putAt, List.set_cons_zero, List.set_cons_succ] at S_; clear S; have S := S_; clear S_) | (refine ev_owns (vs := [_, _, _, _, _, _]) S ?_ rfl m26 rfl (by repeat (first | exact Spot.here _ _ | apply Spot.there)) (by exact rfl) ?_; (first | exact want0 rfl | exact want1 rfl rfl rfl rfl)) | ((with_reducible refine gate_dst (N := 9) rfl ?_); refine ev_alloc #[.string ⟨#[]⟩, .slice none 0 0, .slice none 0 0, .slice none 0 0, .slice none 0 0, .slice none 0 0] rfl S ?_ 9 rfl rfl z26 ?_; (first | exact want0 rfl | exact want1 rfl rfl rfl rfl); intro g9 w9 S_; clear S; have S := S_; clear S_) | (refine ev_puts S ?_ rfl rfl s26 rfl rfl (by repeat (first | exact Spot.here _ _ | apply Spot.there)) rfl ?_ ?_ ?_; (first | exact want0 rfl | exact want1 rfl rfl rfl rfl); rfl; rfl; intro w_ S_; simp only [putAt, List.set_cons_zero, List.set_cons_succ] at S_; clear S; have S := S_; clear S_) | (go_at_call 12; have k_ : Md _ m.nm none 0 m.ex none 0 m.im none 0 m.co A41 c41 m.da none 0 m.re := ⟨nilC HE1.out, nilL HE1.out, nilC HE2.out, nilL HE2.out, nilC HE3.out, nilL HE3.out, Ow.reads (pred_at S.out (a := Ow (Kd.int .u32) 43 A41 c41 m.da) (by repeat (first | exact Spot.here _ _ | apply Spot.there))), Ow.cap (pred_at S.out (a := Ow (Kd.int .u32) 43 A41 c41 m.da) (by repeat (first | exact Spot.here _ _ | apply Spot.there))), nilC HE5.out, nilL HE5.out⟩; (with_reducible refine (putno_moL m none 0 none 0 none 0 A41 c41 none 0 _ k_ ⟨#[]⟩ 0 0 0 129 0 HS_.out HL1.out HL2.out HL3.out HL4.out HL5.out 5 HC_.out (by decide)).mono ?_); clear k_; rintro z_ w_ ⟨rfl, hb_⟩; have hb2_ := hb_; have S_ := Aside0.mk (S.out.keep hb2_); clear hb2_ hb_; clear S; have S := S_; clear S_) | (go_at_call 17; (with_reducible refine (get_nil _).mono ?_); rintro z_ w_ ⟨rfl, hb_⟩; have hb2_ := hb_; have S_ := Aside0.mk (S.out.keep hb2_); clear hb2_ hb_; clear S; have S := S_; clear S_) | (go_at_call 10; (with_reducible refine (awake_calls _).mono ?_); rintro z_ w_ ⟨rfl, hb_⟩; have hb2_ := hb_; have S_ := Aside0.mk (S.out.keep hb2_); clear hb2_ hb_; clear S; have S := S_; clear S_))
  all_goals
    go_ret
    exact ⟨rfl, S.out.below⟩

set_option maxRecDepth 100000 in
set_option maxHeartbeats 8000000 in
theorem bound4f (k : Int) (h0 : 0 ≤ k) (h1 : k ≤ 255) (hk : k % 6 = 4) (w : World) : Calls Try.prog 6 #[.int .u8 k, .bool false] w fun z w' => z = .returned (.bool true) ∧ Below w.heap.size w w' := by
  have S := Aside0.mk (St.start w)
  have hk2 : Int.tmod k 6 = 4 := by rw [Int.tmod_eq_emod_of_nonneg h0]; exact hk
  obtain ⟨m, hm⟩ : ∃ m : Mo, m = ⟨⟨#[]⟩, [], [], [], [], List.replicate 256 z50⟩ := ⟨_, rfl⟩
  have hs : m.nm = ⟨#[]⟩ := by rw [hm]
  have e1 : m.ex = [] := by rw [hm]
  have l1 : m.ex.length = 0 := by rw [e1]; simp
  have e2 : m.im = [] := by rw [hm]
  have l2 : m.im.length = 0 := by rw [e2]; simp
  have e3 : m.co = [] := by rw [hm]
  have l3 : m.co.length = 0 := by rw [e3]; simp
  have e4 : m.da = [] := by rw [hm]
  have l4 : m.da.length = 0 := by rw [e4]; simp
  have e5 : m.re = List.replicate 256 z50 := by rw [hm]
  have l5 : m.re.length = 256 := by rw [e5]; simp
  have hchk : m.chk = 0 := by rw [hm]; unfold Mo.chk; simp only; decide +kernel
  have HS_ := Aside0.mk hs
  have HC_ := Aside0.mk hchk
  have HE1 := Aside0.mk e1
  have HE2 := Aside0.mk e2
  have HE3 := Aside0.mk e3
  have HE4 := Aside0.mk e4
  have HE5 := Aside0.mk e5
  have HL1 := Aside0.mk l1
  have HL2 := Aside0.mk l2
  have HL3 := Aside0.mk l3
  have HL4 := Aside0.mk l4
  have HL5 := Aside0.mk l5
  have hwf : m.Wf := by
    refine ⟨fun x hx => ?_, fun x hx => ?_, fun x hx => ?_⟩
    · rw [e3] at hx; cases hx
    · rw [e4] at hx; cases hx
    · rw [e5] at hx; have := List.eq_of_mem_replicate hx; subst this; decide
  obtain ⟨en, hen⟩ : ∃ en, m.enc = en := ⟨_, rfl⟩
  have hl : Lies m en := ⟨hchk, hwf, hen⟩
  have HL := Aside0.mk hl
  have few := hl.few
  clear hen hl hwf
  clear hm hs hchk e1 l1 e2 l2 e3 l3 e4 l4 e5 l5
  go_enter Try.func6, Try.ntmps6
  go_wp2_with (first | ((with_reducible refine gate_dst (N := 47) rfl ?_); refine ev_make (d := k50) 50 (.agg #[.int .u8 0, .int .u16 0, .int .u16 0]) 6 z50 256 m.re (by exact HE5.out) S rfl 47 rfl rfl rfl rfl Try.underlying24 infz50 rfl (by decide) (by decide) rfl (fun W b => k50_mkM _ _ _ z50) (by decide) ?_; intro A47 c47 w_ S_; clear S; have S := S_; clear S_) | ((with_reducible refine gate_dst (N := 6) rfl ?_); refine ev_alloc #[.string ⟨#[]⟩, .slice none 0 0, .slice none 0 0, .slice none 0 0, .slice none 0 0, .slice none 0 0] rfl S ?_ 6 rfl rfl z26 ?_; (first | exact want0 rfl | exact want1 rfl rfl rfl rfl); intro g6 w6 S_; clear S; have S := S_; clear S_) | (refine ev_put1 S ?_ rfl rfl s22 rfl rfl (by repeat (first | exact Spot.here _ _ | apply Spot.there)) ?_ ?_ ?_; (first | exact want0 rfl | exact want1 rfl rfl rfl rfl); rfl; rfl; intro w_ S_; simp only [putAt, List.set_cons_zero, List.set_cons_succ] at S_; clear S; have S := S_; clear S_) | (refine ev_put1 S ?_ rfl rfl s23 rfl rfl (by repeat (first | exact Spot.here _ _ | apply Spot.there)) ?_ ?_ ?_; (first | exact want0 rfl | exact want1 rfl rfl rfl rfl); rfl; rfl; intro w_ S_; simp only [putAt, List.set_cons_zero, List.set_cons_succ] at S_; clear S; have S := S_; clear S_) | (refine ev_put1 S ?_ rfl rfl s24 rfl rfl (by repeat (first | exact Spot.here _ _ | apply Spot.there)) ?_ ?_ ?_; (first | exact want0 rfl | exact want1 rfl rfl rfl rfl); rfl; rfl; intro w_ S_; simp only [putAt, List.set_cons_zero, List.set_cons_succ] at S_; clear S; have S := S_; clear S_) | (refine ev_put1 S ?_ rfl rfl s9 rfl rfl (by repeat (first | exact Spot.here _ _ | apply Spot.there)) ?_ ?_ ?_; (first | exact want0 rfl | exact want1 rfl rfl rfl rfl); rfl; rfl; intro w_ S_; simp only [putAt, List.set_cons_zero, List.set_cons_succ] at S_; clear S; have S := S_; clear S_) | (refine ev_owns (vs := [_, _, _, _, _, _]) S ?_ rfl m26 rfl (by repeat (first | exact Spot.here _ _ | apply Spot.there)) (by exact rfl) ?_; (first | exact want0 rfl | exact want1 rfl rfl rfl rfl)) | ((with_reducible refine gate_dst (N := 9) rfl ?_); refine ev_alloc #[.string ⟨#[]⟩, .slice none 0 0, .slice none 0 0, .slice none 0 0, .slice none 0 0, .slice none 0 0] rfl S ?_ 9 rfl rfl z26 ?_; (first | exact want0 rfl | exact want1 rfl rfl rfl rfl); intro g9 w9 S_; clear S; have S := S_; clear S_) | (refine ev_puts S ?_ rfl rfl s26 rfl rfl (by repeat (first | exact Spot.here _ _ | apply Spot.there)) rfl ?_ ?_ ?_; (first | exact want0 rfl | exact want1 rfl rfl rfl rfl); rfl; rfl; intro w_ S_; simp only [putAt, List.set_cons_zero, List.set_cons_succ] at S_; clear S; have S := S_; clear S_) | (go_at_call 12; have k_ : Md _ m.nm none 0 m.ex none 0 m.im none 0 m.co none 0 m.da A47 c47 m.re := ⟨nilC HE1.out, nilL HE1.out, nilC HE2.out, nilL HE2.out, nilC HE3.out, nilL HE3.out, nilC HE4.out, nilL HE4.out, Ow.reads (pred_at S.out (a := Ow k50 50 A47 c47 m.re) (by repeat (first | exact Spot.here _ _ | apply Spot.there))), Ow.cap (pred_at S.out (a := Ow k50 50 A47 c47 m.re) (by repeat (first | exact Spot.here _ _ | apply Spot.there)))⟩; (with_reducible refine (put_moL m none 0 none 0 none 0 none 0 A47 c47 _ k_ ⟨#[]⟩ 0 0 0 0 256 HS_.out HL1.out HL2.out HL3.out HL4.out HL5.out HC_.out en HL.out.enc).mono ?_); clear k_; rintro z_ w_ ⟨Ab, cb, rfl, h1_, h2_, hb_⟩; have S_ := Aside0.mk (St.add S.out hb_ _ h1_ h2_); clear h1_ h2_ hb_; clear S; have S := S_; clear S_) | (go_at_call 17; (with_reducible refine (get_yes Ab cb en _ (Ow.reads (pred_at S.out (a := Ow (Kd.int .u8) 5 Ab cb en) (by repeat (first | exact Spot.here _ _ | apply Spot.there)))) (Ow.cap (pred_at S.out (a := Ow (Kd.int .u8) 5 Ab cb en) (by repeat (first | exact Spot.here _ _ | apply Spot.there)))) m HL.out).mono ?_); rintro z_ w_ ⟨⟨Az1, cz1, Az2, cz2, Az3, cz3, Az4, cz4, Az5, cz5, rfl, p1_, p2_, p3_, p4_, p5_, n1_, n2_, n3_, n4_, n5_, ap_⟩, hb_⟩; have S_ := Aside0.mk (St.add S.out hb_ (MoA m Az1 cz1 Az2 cz2 Az3 cz3 Az4 cz4 Az5 cz5) (MoA.mk p1_ p2_ p3_ p4_ p5_) (MoA.new n1_ n2_ n3_ n4_ n5_)); clear p1_ p2_ p3_ p4_ p5_ n1_ n2_ n3_ n4_ n5_ hb_ ap_; clear S; have S := S_; clear S_) | (go_at_call 19; have k_ : Md _ m.nm none 0 m.ex none 0 m.im none 0 m.co none 0 m.da A47 c47 m.re := ⟨nilC HE1.out, nilL HE1.out, nilC HE2.out, nilL HE2.out, nilC HE3.out, nilL HE3.out, nilC HE4.out, nilL HE4.out, Ow.reads (pred_at S.out (a := Ow k50 50 A47 c47 m.re) (by repeat (first | exact Spot.here _ _ | apply Spot.there))), Ow.cap (pred_at S.out (a := Ow k50 50 A47 c47 m.re) (by repeat (first | exact Spot.here _ _ | apply Spot.there)))⟩; (with_reducible refine (same_moL m Az1 cz1 Az2 cz2 Az3 cz3 Az4 cz4 Az5 cz5 none 0 none 0 none 0 none 0 A47 c47 _ (MoA.md (pred_at S.out (a := MoA m Az1 cz1 Az2 cz2 Az3 cz3 Az4 cz4 Az5 cz5) (by repeat (first | exact Spot.here _ _ | apply Spot.there)))) k_ few ⟨#[]⟩ 0 0 0 0 256 HS_.out HL1.out HL2.out HL3.out HL4.out HL5.out).mono ?_); clear k_; rintro z_ w_ ⟨rfl, hb_⟩; have hb2_ := hb_; have S_ := Aside0.mk (S.out.keep hb2_); clear hb2_ hb_; clear S; have S := S_; clear S_) | (go_at_call 10; (with_reducible refine (awake_calls _).mono ?_); rintro z_ w_ ⟨rfl, hb_⟩; have hb2_ := hb_; have S_ := Aside0.mk (S.out.keep hb2_); clear hb2_ hb_; clear S; have S := S_; clear S_))
  all_goals
    go_ret
    exact ⟨rfl, S.out.below⟩

set_option maxRecDepth 100000 in
set_option maxHeartbeats 8000000 in
theorem bound4t (k : Int) (h0 : 0 ≤ k) (h1 : k ≤ 255) (hk : k % 6 = 4) (w : World) : Calls Try.prog 6 #[.int .u8 k, .bool true] w fun z w' => z = .returned (.bool true) ∧ Below w.heap.size w w' := by
  have S := Aside0.mk (St.start w)
  have hk2 : Int.tmod k 6 = 4 := by rw [Int.tmod_eq_emod_of_nonneg h0]; exact hk
  obtain ⟨m, hm⟩ : ∃ m : Mo, m = ⟨⟨#[]⟩, [], [], [], [], List.replicate 257 z50⟩ := ⟨_, rfl⟩
  have hs : m.nm = ⟨#[]⟩ := by rw [hm]
  have e1 : m.ex = [] := by rw [hm]
  have l1 : m.ex.length = 0 := by rw [e1]; simp
  have e2 : m.im = [] := by rw [hm]
  have l2 : m.im.length = 0 := by rw [e2]; simp
  have e3 : m.co = [] := by rw [hm]
  have l3 : m.co.length = 0 := by rw [e3]; simp
  have e4 : m.da = [] := by rw [hm]
  have l4 : m.da.length = 0 := by rw [e4]; simp
  have e5 : m.re = List.replicate 257 z50 := by rw [hm]
  have l5 : m.re.length = 257 := by rw [e5]; simp
  have hchk : m.chk = 5 := by rw [hm]; unfold Mo.chk; simp only; decide +kernel
  have HS_ := Aside0.mk hs
  have HC_ := Aside0.mk hchk
  have HE1 := Aside0.mk e1
  have HE2 := Aside0.mk e2
  have HE3 := Aside0.mk e3
  have HE4 := Aside0.mk e4
  have HE5 := Aside0.mk e5
  have HL1 := Aside0.mk l1
  have HL2 := Aside0.mk l2
  have HL3 := Aside0.mk l3
  have HL4 := Aside0.mk l4
  have HL5 := Aside0.mk l5
  clear hm hs hchk e1 l1 e2 l2 e3 l3 e4 l4 e5 l5
  go_enter Try.func6, Try.ntmps6
  go_wp2_with (first | ((with_reducible refine gate_dst (N := 47) rfl ?_); refine ev_make (d := k50) 50 (.agg #[.int .u8 0, .int .u16 0, .int .u16 0]) 6 z50 257 m.re (by exact HE5.out) S rfl 47 rfl rfl rfl rfl Try.underlying24 infz50 rfl (by decide) (by decide) rfl (fun W b => k50_mkM _ _ _ z50) (by decide) ?_; intro A47 c47 w_ S_; clear S; have S := S_; clear S_) | ((with_reducible refine gate_dst (N := 6) rfl ?_); refine ev_alloc #[.string ⟨#[]⟩, .slice none 0 0, .slice none 0 0, .slice none 0 0, .slice none 0 0, .slice none 0 0] rfl S ?_ 6 rfl rfl z26 ?_; (first | exact want0 rfl | exact want1 rfl rfl rfl rfl); intro g6 w6 S_; clear S; have S := S_; clear S_) | (refine ev_put1 S ?_ rfl rfl s22 rfl rfl (by repeat (first | exact Spot.here _ _ | apply Spot.there)) ?_ ?_ ?_; (first | exact want0 rfl | exact want1 rfl rfl rfl rfl); rfl; rfl; intro w_ S_; simp only [putAt, List.set_cons_zero, List.set_cons_succ] at S_; clear S; have S := S_; clear S_) | (refine ev_put1 S ?_ rfl rfl s23 rfl rfl (by repeat (first | exact Spot.here _ _ | apply Spot.there)) ?_ ?_ ?_; (first | exact want0 rfl | exact want1 rfl rfl rfl rfl); rfl; rfl; intro w_ S_; simp only [putAt, List.set_cons_zero, List.set_cons_succ] at S_; clear S; have S := S_; clear S_) | (refine ev_put1 S ?_ rfl rfl s24 rfl rfl (by repeat (first | exact Spot.here _ _ | apply Spot.there)) ?_ ?_ ?_; (first | exact want0 rfl | exact want1 rfl rfl rfl rfl); rfl; rfl; intro w_ S_; simp only [putAt, List.set_cons_zero, List.set_cons_succ] at S_; clear S; have S := S_; clear S_) | (refine ev_put1 S ?_ rfl rfl s9 rfl rfl (by repeat (first | exact Spot.here _ _ | apply Spot.there)) ?_ ?_ ?_; (first | exact want0 rfl | exact want1 rfl rfl rfl rfl); rfl; rfl; intro w_ S_; simp only [putAt, List.set_cons_zero, List.set_cons_succ] at S_; clear S; have S := S_; clear S_) | (refine ev_owns (vs := [_, _, _, _, _, _]) S ?_ rfl m26 rfl (by repeat (first | exact Spot.here _ _ | apply Spot.there)) (by exact rfl) ?_; (first | exact want0 rfl | exact want1 rfl rfl rfl rfl)) | ((with_reducible refine gate_dst (N := 9) rfl ?_); refine ev_alloc #[.string ⟨#[]⟩, .slice none 0 0, .slice none 0 0, .slice none 0 0, .slice none 0 0, .slice none 0 0] rfl S ?_ 9 rfl rfl z26 ?_; (first | exact want0 rfl | exact want1 rfl rfl rfl rfl); intro g9 w9 S_; clear S; have S := S_; clear S_) | (refine ev_puts S ?_ rfl rfl s26 rfl rfl (by repeat (first | exact Spot.here _ _ | apply Spot.there)) rfl ?_ ?_ ?_; (first | exact want0 rfl | exact want1 rfl rfl rfl rfl); rfl; rfl; intro w_ S_; simp only [putAt, List.set_cons_zero, List.set_cons_succ] at S_; clear S; have S := S_; clear S_) | (go_at_call 12; have k_ : Md _ m.nm none 0 m.ex none 0 m.im none 0 m.co none 0 m.da A47 c47 m.re := ⟨nilC HE1.out, nilL HE1.out, nilC HE2.out, nilL HE2.out, nilC HE3.out, nilL HE3.out, nilC HE4.out, nilL HE4.out, Ow.reads (pred_at S.out (a := Ow k50 50 A47 c47 m.re) (by repeat (first | exact Spot.here _ _ | apply Spot.there))), Ow.cap (pred_at S.out (a := Ow k50 50 A47 c47 m.re) (by repeat (first | exact Spot.here _ _ | apply Spot.there)))⟩; (with_reducible refine (putno_moL m none 0 none 0 none 0 none 0 A47 c47 _ k_ ⟨#[]⟩ 0 0 0 0 257 HS_.out HL1.out HL2.out HL3.out HL4.out HL5.out 5 HC_.out (by decide)).mono ?_); clear k_; rintro z_ w_ ⟨rfl, hb_⟩; have hb2_ := hb_; have S_ := Aside0.mk (S.out.keep hb2_); clear hb2_ hb_; clear S; have S := S_; clear S_) | (go_at_call 17; (with_reducible refine (get_nil _).mono ?_); rintro z_ w_ ⟨rfl, hb_⟩; have hb2_ := hb_; have S_ := Aside0.mk (S.out.keep hb2_); clear hb2_ hb_; clear S; have S := S_; clear S_) | (go_at_call 10; (with_reducible refine (awake_calls _).mono ?_); rintro z_ w_ ⟨rfl, hb_⟩; have hb2_ := hb_; have S_ := Aside0.mk (S.out.keep hb2_); clear hb2_ hb_; clear S; have S := S_; clear S_))
  all_goals
    go_ret
    exact ⟨rfl, S.out.below⟩

set_option maxRecDepth 100000 in
set_option maxHeartbeats 8000000 in
theorem bound5f (k : Int) (h0 : 0 ≤ k) (h1 : k ≤ 255) (hk : k % 6 = 5) (w : World) : Calls Try.prog 6 #[.int .u8 k, .bool false] w fun z w' => z = .returned (.bool true) ∧ Below w.heap.size w w' := by
  have S := Aside0.mk (St.start w)
  have hk2 : Int.tmod k 6 = 5 := by rw [Int.tmod_eq_emod_of_nonneg h0]; exact hk
  obtain ⟨sn, hsn⟩ : ∃ s, strOfNums (List.replicate 96 (0 : Int)) = s := ⟨_, rfl⟩
  have HSN := Aside0.mk hsn
  have hsz : sn.size = 96 := by rw [← hsn]; rw [strOfNums_size, List.length_replicate]
  obtain ⟨m, hm⟩ : ∃ m : Mo, m = ⟨sn, [], [], [], [], []⟩ := ⟨_, rfl⟩
  have hs : m.nm = sn := by rw [hm]
  have e1 : m.ex = [] := by rw [hm]
  have l1 : m.ex.length = 0 := by rw [e1]; simp
  have e2 : m.im = [] := by rw [hm]
  have l2 : m.im.length = 0 := by rw [e2]; simp
  have e3 : m.co = [] := by rw [hm]
  have l3 : m.co.length = 0 := by rw [e3]; simp
  have e4 : m.da = [] := by rw [hm]
  have l4 : m.da.length = 0 := by rw [e4]; simp
  have e5 : m.re = [] := by rw [hm]
  have l5 : m.re.length = 0 := by rw [e5]; simp
  have hchk : m.chk = 0 := by rw [hm]; unfold Mo.chk Ob.chk longS; simp [hsz]
  have HS_ := Aside0.mk hs
  have HC_ := Aside0.mk hchk
  have HE1 := Aside0.mk e1
  have HE2 := Aside0.mk e2
  have HE3 := Aside0.mk e3
  have HE4 := Aside0.mk e4
  have HE5 := Aside0.mk e5
  have HL1 := Aside0.mk l1
  have HL2 := Aside0.mk l2
  have HL3 := Aside0.mk l3
  have HL4 := Aside0.mk l4
  have HL5 := Aside0.mk l5
  have hwf : m.Wf := by
    refine ⟨fun x hx => ?_, fun x hx => ?_, fun x hx => ?_⟩
    · rw [e3] at hx; cases hx
    · rw [e4] at hx; cases hx
    · rw [e5] at hx; cases hx
  obtain ⟨en, hen⟩ : ∃ en, m.enc = en := ⟨_, rfl⟩
  have hl : Lies m en := ⟨hchk, hwf, hen⟩
  have HL := Aside0.mk hl
  have few := hl.few
  clear hen hl hwf
  clear hm hs hchk e1 l1 e2 l2 e3 l3 e4 l4 e5 l5 hsn hsz
  go_enter Try.func6, Try.ntmps6
  go_wp2_with (first | ((with_reducible refine gate_dst (N := 16) rfl ?_); refine ev_make (d := (Kd.int .u8)) 5 (.int .u8 0) 1 (0 : Int) 96 (List.replicate 96 (0 : Int)) (by exact rfl) S rfl 16 rfl rfl rfl rfl Try.underlying30 infz5 rfl (by decide) (by decide) rfl (fun W b => rfl) (by decide) ?_; intro A16 c16 w_ S_; clear S; have S := S_; clear S_) | (refine ev_str (xs := List.replicate 96 (0 : Int)) (s := sn) ?_ 17 rfl rfl rfl (by simp) (Ow.reads (pred_at S.out (a := Ow (Kd.int .u8) 5 A16 c16 (List.replicate 96 (0 : Int))) (by repeat (first | exact Spot.here _ _ | apply Spot.there)))) HSN.out ?_; (first | exact want0 rfl | exact want1 rfl rfl rfl rfl)) | ((with_reducible refine gate_dst (N := 6) rfl ?_); refine ev_alloc #[.string ⟨#[]⟩, .slice none 0 0, .slice none 0 0, .slice none 0 0, .slice none 0 0, .slice none 0 0] rfl S ?_ 6 rfl rfl z26 ?_; (first | exact want0 rfl | exact want1 rfl rfl rfl rfl); intro g6 w6 S_; clear S; have S := S_; clear S_) | (refine ev_put1 S ?_ rfl rfl s22 rfl rfl (by repeat (first | exact Spot.here _ _ | apply Spot.there)) ?_ ?_ ?_; (first | exact want0 rfl | exact want1 rfl rfl rfl rfl); rfl; rfl; intro w_ S_; simp only [putAt, List.set_cons_zero, List.set_cons_succ] at S_; clear S; have S := S_; clear S_) | (refine ev_put1 S ?_ rfl rfl s23 rfl rfl (by repeat (first | exact Spot.here _ _ | apply Spot.there)) ?_ ?_ ?_; (first | exact want0 rfl | exact want1 rfl rfl rfl rfl); rfl; rfl; intro w_ S_; simp only [putAt, List.set_cons_zero, List.set_cons_succ] at S_; clear S; have S := S_; clear S_) | (refine ev_put1 S ?_ rfl rfl s24 rfl rfl (by repeat (first | exact Spot.here _ _ | apply Spot.there)) ?_ ?_ ?_; (first | exact want0 rfl | exact want1 rfl rfl rfl rfl); rfl; rfl; intro w_ S_; simp only [putAt, List.set_cons_zero, List.set_cons_succ] at S_; clear S; have S := S_; clear S_) | (refine ev_put1 S ?_ rfl rfl s9 rfl rfl (by repeat (first | exact Spot.here _ _ | apply Spot.there)) ?_ ?_ ?_; (first | exact want0 rfl | exact want1 rfl rfl rfl rfl); rfl; rfl; intro w_ S_; simp only [putAt, List.set_cons_zero, List.set_cons_succ] at S_; clear S; have S := S_; clear S_) | (refine ev_owns (vs := [_, _, _, _, _, _]) S ?_ rfl m26 rfl (by repeat (first | exact Spot.here _ _ | apply Spot.there)) (by exact rfl) ?_; (first | exact want0 rfl | exact want1 rfl rfl rfl rfl)) | ((with_reducible refine gate_dst (N := 9) rfl ?_); refine ev_alloc #[.string ⟨#[]⟩, .slice none 0 0, .slice none 0 0, .slice none 0 0, .slice none 0 0, .slice none 0 0] rfl S ?_ 9 rfl rfl z26 ?_; (first | exact want0 rfl | exact want1 rfl rfl rfl rfl); intro g9 w9 S_; clear S; have S := S_; clear S_) | (refine ev_puts S ?_ rfl rfl s26 rfl rfl (by repeat (first | exact Spot.here _ _ | apply Spot.there)) rfl ?_ ?_ ?_; (first | exact want0 rfl | exact want1 rfl rfl rfl rfl); rfl; rfl; intro w_ S_; simp only [putAt, List.set_cons_zero, List.set_cons_succ] at S_; clear S; have S := S_; clear S_) | (go_at_call 12; have k_ : ∀ W, Md W m.nm none 0 m.ex none 0 m.im none 0 m.co none 0 m.da none 0 m.re := fun W => ⟨nilC HE1.out, nilL HE1.out, nilC HE2.out, nilL HE2.out, nilC HE3.out, nilL HE3.out, nilC HE4.out, nilL HE4.out, nilC HE5.out, nilL HE5.out⟩; (with_reducible refine (put_moL m none 0 none 0 none 0 none 0 none 0 _ (k_ _) sn 0 0 0 0 0 HS_.out HL1.out HL2.out HL3.out HL4.out HL5.out HC_.out en HL.out.enc).mono ?_); clear k_; rintro z_ w_ ⟨Ab, cb, rfl, h1_, h2_, hb_⟩; have S_ := Aside0.mk (St.add S.out hb_ _ h1_ h2_); clear h1_ h2_ hb_; clear S; have S := S_; clear S_) | (go_at_call 17; (with_reducible refine (get_yes Ab cb en _ (Ow.reads (pred_at S.out (a := Ow (Kd.int .u8) 5 Ab cb en) (by repeat (first | exact Spot.here _ _ | apply Spot.there)))) (Ow.cap (pred_at S.out (a := Ow (Kd.int .u8) 5 Ab cb en) (by repeat (first | exact Spot.here _ _ | apply Spot.there)))) m HL.out).mono ?_); rintro z_ w_ ⟨⟨Az1, cz1, Az2, cz2, Az3, cz3, Az4, cz4, Az5, cz5, rfl, p1_, p2_, p3_, p4_, p5_, n1_, n2_, n3_, n4_, n5_, ap_⟩, hb_⟩; have S_ := Aside0.mk (St.add S.out hb_ (MoA m Az1 cz1 Az2 cz2 Az3 cz3 Az4 cz4 Az5 cz5) (MoA.mk p1_ p2_ p3_ p4_ p5_) (MoA.new n1_ n2_ n3_ n4_ n5_)); clear p1_ p2_ p3_ p4_ p5_ n1_ n2_ n3_ n4_ n5_ hb_ ap_; clear S; have S := S_; clear S_) | (go_at_call 19; have k_ : ∀ W, Md W m.nm none 0 m.ex none 0 m.im none 0 m.co none 0 m.da none 0 m.re := fun W => ⟨nilC HE1.out, nilL HE1.out, nilC HE2.out, nilL HE2.out, nilC HE3.out, nilL HE3.out, nilC HE4.out, nilL HE4.out, nilC HE5.out, nilL HE5.out⟩; (with_reducible refine (same_moL m Az1 cz1 Az2 cz2 Az3 cz3 Az4 cz4 Az5 cz5 none 0 none 0 none 0 none 0 none 0 _ (MoA.md (pred_at S.out (a := MoA m Az1 cz1 Az2 cz2 Az3 cz3 Az4 cz4 Az5 cz5) (by repeat (first | exact Spot.here _ _ | apply Spot.there)))) (k_ _) few sn 0 0 0 0 0 HS_.out HL1.out HL2.out HL3.out HL4.out HL5.out).mono ?_); clear k_; rintro z_ w_ ⟨rfl, hb_⟩; have hb2_ := hb_; have S_ := Aside0.mk (S.out.keep hb2_); clear hb2_ hb_; clear S; have S := S_; clear S_) | (go_at_call 10; (with_reducible refine (awake_calls _).mono ?_); rintro z_ w_ ⟨rfl, hb_⟩; have hb2_ := hb_; have S_ := Aside0.mk (S.out.keep hb2_); clear hb2_ hb_; clear S; have S := S_; clear S_))
  all_goals
    go_ret
    exact ⟨rfl, S.out.below⟩

set_option maxRecDepth 100000 in
set_option maxHeartbeats 8000000 in
theorem bound5t (k : Int) (h0 : 0 ≤ k) (h1 : k ≤ 255) (hk : k % 6 = 5) (w : World) : Calls Try.prog 6 #[.int .u8 k, .bool true] w fun z w' => z = .returned (.bool true) ∧ Below w.heap.size w w' := by
  have S := Aside0.mk (St.start w)
  have hk2 : Int.tmod k 6 = 5 := by rw [Int.tmod_eq_emod_of_nonneg h0]; exact hk
  obtain ⟨sn, hsn⟩ : ∃ s, strOfNums (List.replicate 97 (0 : Int)) = s := ⟨_, rfl⟩
  have HSN := Aside0.mk hsn
  have hsz : sn.size = 97 := by rw [← hsn]; rw [strOfNums_size, List.length_replicate]
  obtain ⟨m, hm⟩ : ∃ m : Mo, m = ⟨sn, [], [], [], [], []⟩ := ⟨_, rfl⟩
  have hs : m.nm = sn := by rw [hm]
  have e1 : m.ex = [] := by rw [hm]
  have l1 : m.ex.length = 0 := by rw [e1]; simp
  have e2 : m.im = [] := by rw [hm]
  have l2 : m.im.length = 0 := by rw [e2]; simp
  have e3 : m.co = [] := by rw [hm]
  have l3 : m.co.length = 0 := by rw [e3]; simp
  have e4 : m.da = [] := by rw [hm]
  have l4 : m.da.length = 0 := by rw [e4]; simp
  have e5 : m.re = [] := by rw [hm]
  have l5 : m.re.length = 0 := by rw [e5]; simp
  have hchk : m.chk = 5 := by rw [hm]; unfold Mo.chk Ob.chk longS; simp [hsz]
  have HS_ := Aside0.mk hs
  have HC_ := Aside0.mk hchk
  have HE1 := Aside0.mk e1
  have HE2 := Aside0.mk e2
  have HE3 := Aside0.mk e3
  have HE4 := Aside0.mk e4
  have HE5 := Aside0.mk e5
  have HL1 := Aside0.mk l1
  have HL2 := Aside0.mk l2
  have HL3 := Aside0.mk l3
  have HL4 := Aside0.mk l4
  have HL5 := Aside0.mk l5
  clear hm hs hchk e1 l1 e2 l2 e3 l3 e4 l4 e5 l5 hsn hsz
  go_enter Try.func6, Try.ntmps6
  go_wp2_with (first | ((with_reducible refine gate_dst (N := 16) rfl ?_); refine ev_make (d := (Kd.int .u8)) 5 (.int .u8 0) 1 (0 : Int) 97 (List.replicate 97 (0 : Int)) (by exact rfl) S rfl 16 rfl rfl rfl rfl Try.underlying30 infz5 rfl (by decide) (by decide) rfl (fun W b => rfl) (by decide) ?_; intro A16 c16 w_ S_; clear S; have S := S_; clear S_) | (refine ev_str (xs := List.replicate 97 (0 : Int)) (s := sn) ?_ 17 rfl rfl rfl (by simp) (Ow.reads (pred_at S.out (a := Ow (Kd.int .u8) 5 A16 c16 (List.replicate 97 (0 : Int))) (by repeat (first | exact Spot.here _ _ | apply Spot.there)))) HSN.out ?_; (first | exact want0 rfl | exact want1 rfl rfl rfl rfl)) | ((with_reducible refine gate_dst (N := 6) rfl ?_); refine ev_alloc #[.string ⟨#[]⟩, .slice none 0 0, .slice none 0 0, .slice none 0 0, .slice none 0 0, .slice none 0 0] rfl S ?_ 6 rfl rfl z26 ?_; (first | exact want0 rfl | exact want1 rfl rfl rfl rfl); intro g6 w6 S_; clear S; have S := S_; clear S_) | (refine ev_put1 S ?_ rfl rfl s22 rfl rfl (by repeat (first | exact Spot.here _ _ | apply Spot.there)) ?_ ?_ ?_; (first | exact want0 rfl | exact want1 rfl rfl rfl rfl); rfl; rfl; intro w_ S_; simp only [putAt, List.set_cons_zero, List.set_cons_succ] at S_; clear S; have S := S_; clear S_) | (refine ev_put1 S ?_ rfl rfl s23 rfl rfl (by repeat (first | exact Spot.here _ _ | apply Spot.there)) ?_ ?_ ?_; (first | exact want0 rfl | exact want1 rfl rfl rfl rfl); rfl; rfl; intro w_ S_; simp only [putAt, List.set_cons_zero, List.set_cons_succ] at S_; clear S; have S := S_; clear S_) | (refine ev_put1 S ?_ rfl rfl s24 rfl rfl (by repeat (first | exact Spot.here _ _ | apply Spot.there)) ?_ ?_ ?_; (first | exact want0 rfl | exact want1 rfl rfl rfl rfl); rfl; rfl; intro w_ S_; simp only [putAt, List.set_cons_zero, List.set_cons_succ] at S_; clear S; have S := S_; clear S_) | (refine ev_put1 S ?_ rfl rfl s9 rfl rfl (by repeat (first | exact Spot.here _ _ | apply Spot.there)) ?_ ?_ ?_; (first | exact want0 rfl | exact want1 rfl rfl rfl rfl); rfl; rfl; intro w_ S_; simp only [putAt, List.set_cons_zero, List.set_cons_succ] at S_; clear S; have S := S_; clear S_) | (refine ev_owns (vs := [_, _, _, _, _, _]) S ?_ rfl m26 rfl (by repeat (first | exact Spot.here _ _ | apply Spot.there)) (by exact rfl) ?_; (first | exact want0 rfl | exact want1 rfl rfl rfl rfl)) | ((with_reducible refine gate_dst (N := 9) rfl ?_); refine ev_alloc #[.string ⟨#[]⟩, .slice none 0 0, .slice none 0 0, .slice none 0 0, .slice none 0 0, .slice none 0 0] rfl S ?_ 9 rfl rfl z26 ?_; (first | exact want0 rfl | exact want1 rfl rfl rfl rfl); intro g9 w9 S_; clear S; have S := S_; clear S_) | (refine ev_puts S ?_ rfl rfl s26 rfl rfl (by repeat (first | exact Spot.here _ _ | apply Spot.there)) rfl ?_ ?_ ?_; (first | exact want0 rfl | exact want1 rfl rfl rfl rfl); rfl; rfl; intro w_ S_; simp only [putAt, List.set_cons_zero, List.set_cons_succ] at S_; clear S; have S := S_; clear S_) | (go_at_call 12; have k_ : ∀ W, Md W m.nm none 0 m.ex none 0 m.im none 0 m.co none 0 m.da none 0 m.re := fun W => ⟨nilC HE1.out, nilL HE1.out, nilC HE2.out, nilL HE2.out, nilC HE3.out, nilL HE3.out, nilC HE4.out, nilL HE4.out, nilC HE5.out, nilL HE5.out⟩; (with_reducible refine (putno_moL m none 0 none 0 none 0 none 0 none 0 _ (k_ _) sn 0 0 0 0 0 HS_.out HL1.out HL2.out HL3.out HL4.out HL5.out 5 HC_.out (by decide)).mono ?_); clear k_; rintro z_ w_ ⟨rfl, hb_⟩; have hb2_ := hb_; have S_ := Aside0.mk (S.out.keep hb2_); clear hb2_ hb_; clear S; have S := S_; clear S_) | (go_at_call 17; (with_reducible refine (get_nil _).mono ?_); rintro z_ w_ ⟨rfl, hb_⟩; have hb2_ := hb_; have S_ := Aside0.mk (S.out.keep hb2_); clear hb2_ hb_; clear S; have S := S_; clear S_) | (go_at_call 10; (with_reducible refine (awake_calls _).mono ?_); rintro z_ w_ ⟨rfl, hb_⟩; have hb2_ := hb_; have S_ := Aside0.mk (S.out.keep hb2_); clear hb2_ hb_; clear S; have S := S_; clear S_))
  all_goals
    go_ret
    exact ⟨rfl, S.out.below⟩

theorem bounds (k : Int) (b : Bool) (w : World) (h0 : 0 ≤ k) (h1 : k ≤ 255) : Calls Try.prog 6 #[.int .u8 k, .bool b] w fun z w' => z = .returned (.bool true) ∧ Below w.heap.size w w' := by
  have h6 : k % 6 = 0 ∨ k % 6 = 1 ∨ k % 6 = 2 ∨ k % 6 = 3 ∨ k % 6 = 4 ∨ k % 6 = 5 := by omega
  rcases h6 with h | h | h | h | h | h
  · cases b with
    | false => exact bound0f k h0 h1 h w
    | true => exact bound0t k h0 h1 h w
  · cases b with
    | false => exact bound1f k h0 h1 h w
    | true => exact bound1t k h0 h1 h w
  · cases b with
    | false => exact bound2f k h0 h1 h w
    | true => exact bound2t k h0 h1 h w
  · cases b with
    | false => exact bound3f k h0 h1 h w
    | true => exact bound3t k h0 h1 h w
  · cases b with
    | false => exact bound4f k h0 h1 h w
    | true => exact bound4t k h0 h1 h w
  · cases b with
    | false => exact bound5f k h0 h1 h w
    | true => exact bound5t k h0 h1 h w
end Go.Proofs.Ytkoimdgpicmakaa.Ob
