/- The document lays a module (budwoodref10.Put). -/
import Derived.Test.YtkoimdgpicmakaaZMo
import Derived.RegionTactic
import Derived.BigRegion
import Derived.ArgAppend
import Derived.Test.YtkoimdgpicmakaaZPq
namespace Go.Proofs.Ytkoimdgpicmakaa.Ob
open Go.Proofs.Ytkoimdgpicmakaa.Inv Go.Proofs.Ytkoimdgpicmakaa.Pure1 Go.Proofs.Ytkoimdgpicmakaa.Pure2 Go.Proofs.Ytkoimdgpicmakaa.Pure4
open Go.RowKit Go.Proofs.Ytkoimdgpicmakaa.Sep Go.Proofs.YtkoimdgpicmakaaW.PrintWords Go.Proofs.YtkoimdgpicmakaaW.PrintLast Go.Proofs.Ytkoimdgpicmakaa.Wm Go.Proofs.Ytkoimdgpicmakaa.Ev Go.Proofs.Ytkoimdgpicmakaa.Ty Go.Proofs.Ytkoimdgpicmakaa.PB
set_option linter.unusedVariables false
set_option linter.unusedSimpArgs false

section
variable {ops : Array Oper} {rest : List Oper} {o : Oper} {a : Act} {Q : Exit → Act → World → Prop} {K : Act → World → Prop} {B : Nat} {w W : World} {L : List Asn} {F : Asn → List Asn}
theorem pAt (h : St B w W L) (a : Asn) (hs : Spot L a F := by repeat (first | exact Spot.here _ _ | apply Spot.there)) : a.pred W := pred_at h hs
theorem ocA (S : Aside0 (St B w W L)) (g : Nat) {cs : Array Value} {T : TypeId} (i : Nat) (hs : Spot L (Bk g cs T) F := by repeat (first | exact Spot.here _ _ | apply Spot.there)) : W.cell? ⟨g, i, none⟩ = cs[i]? := own_cell S hs i
theorem cells_of {k : IntKind} {W : World} {A : Option Addr} {n : Nat} {xs : List Int} (h : Kd.C (Kd.int k) W A n xs) : ∀ b, A = some b → 0 < n → ∀ j u, (xs.map (Value.int k))[j]? = some u → W.cell? (b.add j) = some u := by
  intro b hb hn j u hj
  obtain ⟨ad, e, hr⟩ := h.2.2 hn
  rw [hb] at e
  injection e with e
  subst e
  rw [List.getElem?_map, Option.map_eq_some_iff] at hj
  obtain ⟨p, hp, rfl⟩ := hj
  obtain ⟨cs, h1, h2, h3⟩ := hr j p hp
  obtain rfl : cs = [.int k p] := h2
  have h4 := h3 0 _ rfl
  rw [show j * (Kd.int k).sz + 0 = j by simp [show (Kd.int k).sz = 1 from rfl]] at h4
  exact h4
/-- A row that is full is appended to: a new one. -/
theorem ev_grow (s x : Operand) {g n m c c1 : Nat} {A1 : Option Addr} {xs ys zs : List Int} (S : Aside0 (St B w W L)) (hgd : o.guard = none) (ho : o.op = .call { callee := .builtin .append, args := #[s, x], argTypes := #[30, 30] })
    (hs : a.eval s = .slice (some ⟨g, 0, none⟩) n c) (hx : a.eval x = .slice A1 m c1) (hn : xs.length = n) (hC : Kd.C (Kd.int .u8) W (some ⟨g, 0, none⟩) xs.length xs) (hC1 : Kd.C (Kd.int .u8) W A1 m ys) (hfull : n ≤ c ∧ c < n + m) (hb : n + m ≤ 1099511627776) (hz : xs ++ ys = zs)
    (h : ∀ A' c' w1, Aside0 (St B w w1 (Ow (Kd.int .u8) 5 A' c' zs :: L)) → wpList Try.prog ops Q rest (a.put o.dst (.slice A' zs.length c')) w1) : wpList Try.prog ops Q (o :: rest) a W := by
  subst hn hz
  obtain ⟨i, hi, hz⟩ := Option.map_eq_some_iff.1 info5
  injection hz with h1 h2
  injection h2 with h2 h3
  have hl1 : ys.length = m := hC1.1
  have hm : 0 < m := by omega
  obtain ⟨ad, e1, _⟩ := hC1.2.2 hm
  subst e1
  refine wpList_append_grows W hgd s x 30 ho 5 i (.int .u8 0) 1 1 Try.underlying30 hi h1 h2 h3 rfl (by decide) (some ⟨g, 0, none⟩) xs.length c (xs.map (Value.int .u8)) hs (fun e => by cases e) (by simp) (fun b hb j u hj => ?_) ad m c1 (ys.map (Value.int .u8)) hx (by simp [hl1]) (fun j u hj => cells_of hC1 ad rfl hm j u hj) (fun u hu => ?_) (by omega) (by simp [maxLen]; omega) (by omega) (fun v' w' r1 r2 => ?_)
  · have hj' := (List.getElem?_eq_some_iff.1 hj).1
    rw [List.length_map] at hj'
    exact cells_of hC b hb (by omega) j u hj
  · obtain ⟨p, _, rfl⟩ := List.mem_map.1 hu
    rfl
  · have hR : Kd.R (Kd.int .u8) 5 w' W.heap.size (fun _ => True) v' (xs ++ ys) := by
      refine ⟨fun _ _ => trivial, (xs ++ ys).map (Value.int .u8), ?_, reps_scalar (enc := Value.int .u8) (h1 := fun _ => rfl) _ _ _ _⟩
      rw [List.map_append, List.length_append, hl1]
      exact r1
    obtain ⟨A', c', rfl, _⟩ := Kd.R_reads hR
    exact h A' c' w' ⟨St.add S.out ((Below.refl _ _).grown r2 (Nat.le_refl _) (fun k hk => by cases hk)) _ (Ow.mk rfl hR) (Ow.new hR)⟩
theorem ev_appz (s x : Operand) {A A1 : Option Addr} {n m c c1 : Nat} {xs ys zs : List Int} (S : Aside0 (St B w W L)) (hgd : o.guard = none) (ho : o.op = .call { callee := .builtin .append, args := #[s, x], argTypes := #[30, 30] })
    (hs : a.eval s = .slice A n c) (hx : a.eval x = .slice A1 m c1) (hsp : Spot L (Ow (Kd.int .u8) 5 A c xs) F) (hn : xs.length = n) (hC : Kd.C (Kd.int .u8) W A1 m ys) (hl : xs.length + m ≤ 140737488355328) (hz : xs ++ ys = zs)
    (h : ∀ A' c' w1, Aside0 (St B w w1 (F (Ow (Kd.int .u8) 5 A' c' zs))) → wpList Try.prog ops Q rest (a.put o.dst (.slice A' zs.length c')) w1) : wpList Try.prog ops Q (o :: rest) a W := by
  subst hz
  exact ev_rows (enc := Value.int .u8) (h1 := fun _ => rfl) (e := 5) (0 : Int) s x 30 (.int .u8 0) 1 (xs := xs) (ys := ys) S hgd ho Try.underlying30 info5 rfl (by decide) hs hx hsp hn hC (by omega) h
theorem st_appz (s x : Operand) {A A1 : Option Addr} {N : Option Tmp} {n m c c1 : Nat} {xs ys zs : List Int} (S : Aside0 (St B w W L)) (hw : Region.wanted o (yielded ops a.tmps) = true) (hN : o.dst = N) (ho : o.op = .call { callee := .builtin .append, args := #[s, x], argTypes := #[30, 30] })
    (hs : a.eval s = .slice A n c) (hx : a.eval x = .slice A1 m c1) (hsp : Spot L (Ow (Kd.int .u8) 5 A c xs) F) (hn : xs.length = n) (hC : Kd.C (Kd.int .u8) W A1 m ys) (hl : xs.length + m ≤ 140737488355328) (hz : xs ++ ys = zs)
    (h : ∀ A' c' w1, Aside0 (St B w w1 (F (Ow (Kd.int .u8) 5 A' c' zs))) → K (a.put N (.slice A' zs.length c')) w1) : if Region.wanted o (yielded ops a.tmps) = true then Oper.wp Try.prog o a W K Q else K (a.put N undef) W := by
  subst hz
  exact st_rowsS (d := Kd.int .u8) (e := 5) s x 30 (.int .u8 0) 1 (xs := xs) (ys := ys) rfl (fun W x cs hk => hk) (by decide) S hw hN ho Try.underlying30 info5 rfl (by decide) hs hx hsp hn hC (by omega) (fun A' c' w1 S1 _ => h A' c' w1 S1)
end
theorem rput_no (m : Mo) (Aa1 : Option Addr) (ca1 : Nat) (Aa2 : Option Addr) (ca2 : Nat) (Aa3 : Option Addr) (ca3 : Nat) (Aa4 : Option Addr) (ca4 : Nat) (Aa5 : Option Addr) (ca5 : Nat) (w : World) (h : Md w m.nm Aa1 ca1 m.ex Aa2 ca2 m.im Aa3 ca3 m.co Aa4 ca4 m.da Aa5 ca5 m.re) (few : m.Few) (f : Int) (hf : m.chk = f) (hne : (f != 0) = true) : Calls Try.prog 13 #[.agg #[.string m.nm, .slice Aa1 m.ex.length ca1, .slice Aa2 m.im.length ca2, .slice Aa3 m.co.length ca3, .slice Aa4 m.da.length ca4, .slice Aa5 m.re.length ca5]] w fun z w' => z = .returned (.tuple #[.slice none 0 0, .int .i64 f]) ∧ Below w.heap.size w w' := by
  have HM := Aside0.mk h
  have S := Aside0.mk (St.start w)
  have HCF := Aside0.mk ((rchk_f (k := 1000001) m.nm m.ex m.im m.co m.da m.re (by have := few.ex; omega) (by have := few.im; omega) (by have := few.re; omega) (by decide)).trans (by rw [show Ob.chk m.nm m.ex m.im m.co m.da m.re = f from hf]))
  clear h hf
  go_enter Try.func13, Try.ntmps13
  go_wp2_with (first | ((with_reducible refine gate_dst (N := 1) rfl ?_); refine ev_boxs S ?_ 1 rfl rfl rfl ?_; (first | exact want0 rfl | exact want1 rfl rfl rfl rfl); intro g1 w1 S_; clear S; have S := S_; clear S_) | (refine ev_owns (vs := [_, _, _, _, _, _]) S ?_ rfl m26 rfl (by repeat (first | exact Spot.here _ _ | apply Spot.there)) (by exact rfl) ?_; (first | exact want0 rfl | exact want1 rfl rfl rfl rfl)) | (refine ev_own1 S ?_ rfl o9 rfl (by repeat (first | exact Spot.here _ _ | apply Spot.there)) (by exact rfl) ?_; (first | exact want0 rfl | exact want1 rfl rfl rfl rfl)) | (refine ev_own1 S ?_ rfl o22 rfl (by repeat (first | exact Spot.here _ _ | apply Spot.there)) (by exact rfl) ?_; (first | exact want0 rfl | exact want1 rfl rfl rfl rfl)) | (refine ev_own1 S ?_ rfl o23 rfl (by repeat (first | exact Spot.here _ _ | apply Spot.there)) (by exact rfl) ?_; (first | exact want0 rfl | exact want1 rfl rfl rfl rfl)) | (refine ev_own1 S ?_ rfl o24 rfl (by repeat (first | exact Spot.here _ _ | apply Spot.there)) (by exact rfl) ?_; (first | exact want0 rfl | exact want1 rfl rfl rfl rfl)) | (refine ev_owns (vs := [_, _, _]) S ?_ rfl m50 rfl (by repeat (first | exact Spot.here _ _ | apply Spot.there)) (by exact rfl) ?_; (first | exact want0 rfl | exact want1 rfl rfl rfl rfl)) | ((with_reducible refine gate_dst (N := 7) rfl ?_); refine ev_alloc #[.int .u8 0, .int .u16 0, .int .u16 0] rfl S ?_ 7 rfl rfl z50 ?_; (first | exact want0 rfl | exact want1 rfl rfl rfl rfl); intro g7 w7 S_; clear S; have S := S_; clear S_) | (refine ev_puts S ?_ rfl rfl s50 rfl rfl (by repeat (first | exact Spot.here _ _ | apply Spot.there)) rfl ?_ ?_ ?_; (first | exact want0 rfl | exact want1 rfl rfl rfl rfl); rfl; rfl; intro w_ S_; simp only [putAt, List.set_cons_zero, List.set_cons_succ] at S_; clear S; have S := S_; clear S_) | (refine ev_own1 S ?_ rfl o47 rfl (by repeat (first | exact Spot.here _ _ | apply Spot.there)) (by exact rfl) ?_; (first | exact want0 rfl | exact want1 rfl rfl rfl rfl)) | (refine ev_own1 S ?_ rfl o48 rfl (by repeat (first | exact Spot.here _ _ | apply Spot.there)) (by exact rfl) ?_; (first | exact want0 rfl | exact want1 rfl rfl rfl rfl)) | (go_at_call 15; (with_reducible refine (budwoodref10_Check.calls 1000003 m.nm Aa1 ca1 m.ex Aa2 ca2 m.im Aa3 ca3 m.co Aa4 ca4 m.da Aa5 ca5 m.re f _ (HM.out.below S.out.below).r1 (HM.out.below S.out.below).l1 (HM.out.below S.out.below).r2 (HM.out.below S.out.below).l2 (HM.out.below S.out.below).r3 (HM.out.below S.out.below).l3 (HM.out.below S.out.below).r4 (HM.out.below S.out.below).l4 (HM.out.below S.out.below).r5 (HM.out.below S.out.below).l5 HCF.out).mono ?_); rintro z_ w_ ⟨rfl, hb_⟩; have hb2_ := hb_; have S_ := Aside0.mk (S.out.keep hb2_); clear hb2_ hb_; clear S; have S := S_; clear S_))
  refine retN (rs := [.tmp 2, .tmp 3]) rfl rfl ?_ (.tmp (.tmp .nil)) ?_
  · simp
  exact ⟨rfl, S.out.below⟩
set_option maxRecDepth 100000 in
set_option maxHeartbeats 8000000 in
theorem rput_ok (m : Mo) (Aa1 : Option Addr) (ca1 : Nat) (Aa2 : Option Addr) (ca2 : Nat) (Aa3 : Option Addr) (ca3 : Nat) (Aa4 : Option Addr) (ca4 : Nat) (Aa5 : Option Addr) (ca5 : Nat) (w : World) (h : Md w m.nm Aa1 ca1 m.ex Aa2 ca2 m.im Aa3 ca3 m.co Aa4 ca4 m.da Aa5 ca5 m.re) (hf : m.chk = 0) (en : List Int) (hx : m.enc = en) : Calls Try.prog 13 #[.agg #[.string m.nm, .slice Aa1 m.ex.length ca1, .slice Aa2 m.im.length ca2, .slice Aa3 m.co.length ca3, .slice Aa4 m.da.length ca4, .slice Aa5 m.re.length ca5]] w fun z w' => ∃ A c, z = .returned (.tuple #[.slice A en.length c, .int .i64 0]) ∧ (Ow (Kd.int .u8) 5 A c en).pred w' ∧ (∀ k, (Ow (Kd.int .u8) 5 A c en).foot k → w.heap.size ≤ k) ∧ Below w.heap.size w w' := by
  have HM := Aside0.mk h
  have S := Aside0.mk (St.start w)
  have hok : Okm m.nm m.ex m.im m.co m.da m.re := chk_ok hf
  have hre : m.re.length ≤ 256 := hok.nre
  obtain ⟨f, hff⟩ : ∃ f : Int, f = 0 := ⟨0, rfl⟩
  have HCF := Aside0.mk ((rchk_f (k := 1000001) m.nm m.ex m.im m.co m.da m.re (by have := hok.nex; omega) (by have := hok.nim; omega) (by omega) (by decide)).trans (by rw [show Ob.chk m.nm m.ex m.im m.co m.da m.re = f from by rw [hff]; exact hf]))
  have hne : (f != 0) = false := by rw [hff]; rfl
  have b17 := txt_96 m.nm hok.nnm
  have b22 := flat_le txt 101 m.ex (fun s hs => txt_96 s (hok.exs s hs))
  have b26 := flat_le txt 101 m.im (fun s hs => txt_96 s (hok.ims s hs))
  have b31 := flat_len m.co
  have b35 := flat_len m.da
  have n17 := (num_len ((m.nm.size : Int) % 4294967296)).1
  have n22 := (num_len (m.ex.length : Int)).2
  have n26 := (num_len (m.im.length : Int)).2
  have n31 := (num_len ((m.co.length : Int) % 4294967296)).2
  have n35 := (num_len ((m.da.length : Int) % 4294967296)).2
  have n42 := (num_len (m.re.length : Int)).2
  have q1 := hok.nex; have q2 := hok.nim; have q3 := hok.nco; have q4 := hok.nda
  obtain ⟨t17, e17⟩ : ∃ t, txt m.nm = t := ⟨_, rfl⟩
  obtain ⟨t22, e22⟩ : ∃ t, texts m.ex = t := ⟨_, rfl⟩
  obtain ⟨t26, e26⟩ : ∃ t, texts m.im = t := ⟨_, rfl⟩
  obtain ⟨t31, e31⟩ : ∃ t, wds m.co = t := ⟨_, rfl⟩
  obtain ⟨t35, e35⟩ : ∃ t, wds m.da = t := ⟨_, rfl⟩
  obtain ⟨t42, e42⟩ : ∃ t, num (m.re.length : Int) = t := ⟨_, rfl⟩
  have l17 : 1 ≤ t17.length ∧ t17.length ≤ 101 := by rw [← e17]; refine ⟨?_, b17⟩; unfold txt; rw [List.length_append]; omega
  have l22 : t22.length ≤ 4000 := by rw [← e22]; unfold texts; rw [List.length_append]; omega
  have l26 : t26.length ≤ 4000 := by rw [← e26]; unfold texts; rw [List.length_append]; omega
  have l31 : t31.length ≤ 4000 := by rw [← e31]; unfold wds; rw [List.length_append]; omega
  have l35 : t35.length ≤ 4000 := by rw [← e35]; unfold wds; rw [List.length_append]; omega
  have l42 : t42.length ≤ 4000 := by rw [← e42]; omega
  have HT17 := Aside0.mk ((rtext_up m.nm (by have := hok.nnm; omega) (Nat.le_refl 5)).trans (by rw [e17]))
  have HT22 := Aside0.mk ((rtexts_up (k := 3000) m.ex (by omega) hok.exs (by omega)).trans (by rw [e22]))
  have HT26 := Aside0.mk ((rtexts_up (k := 3000) m.im (by omega) hok.ims (by omega)).trans (by rw [e26]))
  have HT31 := Aside0.mk ((rwords_up (k := 3000) m.co (by omega) (by omega)).trans (by rw [e31]))
  have HT35 := Aside0.mk ((rwords_up (k := 3000) m.da (by omega) (by omega)).trans (by rw [e35]))
  have HT42 : Aside0 (budwoodref03_Var.f 5 (m.re.length : Int) = some t42) := ⟨by rw [rvar_up _ (by omega) (by omega) (Nat.le_refl 5), e42]⟩
  obtain ⟨o18, z18⟩ : ∃ t, magic ++ t17 = t := ⟨_, rfl⟩
  obtain ⟨o23, z23⟩ : ∃ t, o18 ++ t22 = t := ⟨_, rfl⟩
  obtain ⟨o27, z27⟩ : ∃ t, o23 ++ t26 = t := ⟨_, rfl⟩
  obtain ⟨o32, z32⟩ : ∃ t, o27 ++ t31 = t := ⟨_, rfl⟩
  obtain ⟨o36, z36⟩ : ∃ t, o32 ++ t35 = t := ⟨_, rfl⟩
  obtain ⟨o43, z43⟩ : ∃ t, o36 ++ t42 = t := ⟨_, rfl⟩
  have hEN : Aside0 (en = o43 ++ m.re.flatMap lr) := ⟨by rw [← hx, ← z43, ← z36, ← z32, ← z27, ← z23, ← z18, ← e17, ← e22, ← e26, ← e31, ← e35, ← e42]; unfold Mo.enc enc rels; simp [List.append_assoc]⟩
  have k18 : o18.length ≤ 200 := by rw [← z18, List.length_append]; have : magic.length = 4 := rfl; omega
  have k23 : o23.length ≤ 4200 := by rw [← z23, List.length_append]; omega
  have k27 : o27.length ≤ 8200 := by rw [← z27, List.length_append]; omega
  have k32 : o32.length ≤ 12200 := by rw [← z32, List.length_append]; omega
  have k36 : o36.length ≤ 16200 := by rw [← z36, List.length_append]; omega
  have k43 : o43.length ≤ 20200 := by rw [← z43, List.length_append]; omega
  have HZ18 := Aside0.mk z18
  have HZ23 := Aside0.mk z23
  have HZ27 := Aside0.mk z27
  have HZ32 := Aside0.mk z32
  have HZ36 := Aside0.mk z36
  have HZ43 := Aside0.mk z43
  have HC := Aside0.mk h.r5
  clear h hf hx hok hff e17 e22 e26 e31 e35 e42 z18 z23 z27 z32 z36 z43 b17 b22 b26 b31 b35 n17 n22 n26 n31 n35 n42 q1 q2 q3 q4
  go_enter Try.func13, Try.ntmps13
  go_wp2_with (first | ((with_reducible refine gate_dst (N := 13) rfl ?_); refine ev_litB (cs := #[.int .u8 66, .int .u8 85, .int .u8 68, .int .u8 49]) (t := 5) (n := 4) S ?_ 13 rfl (by first | (go_simp; done) | (go_simp; rfl)) ?_; (first | exact want0 rfl | exact want1 rfl rfl rfl rfl); intro g13 w13 S_; clear S; have S := S_; clear S_) | (refine ev_conv (g := g13) S ?_ 14 rfl rfl rfl (by repeat (first | exact Spot.here _ _ | apply Spot.there)) ?_; (first | exact want0 rfl | exact want1 rfl rfl rfl rfl); intro w_ S_; clear S; have S := S_; clear S_) | (((with_reducible refine gate_builtin (b := .append) (xs := #[.tmp 14, .tmp 17]) rfl ?_); at_builtin; refine ev_grow (.tmp 14) (.tmp 17) (xs := magic) (ys := t17) (zs := o18) S rfl rfl rfl rfl rfl (C_marked (xs := magic) (pAt S.out (Bm g13 #[.int .u8 66, .int .u8 85, .int .u8 68, .int .u8 49] 5)) rfl (by decide)) (Ow.reads (pAt S.out (Ow (Kd.int .u8) 5 A17 c17 t17))) (by omega) (by omega) HZ18.out ?_; intro A18 c18 w_ S_; clear S; have S := S_; clear S_)) | ((with_reducible refine gate_dst (N := 1) rfl ?_); refine ev_boxs S ?_ 1 rfl rfl rfl ?_; (first | exact want0 rfl | exact want1 rfl rfl rfl rfl); intro g1 w1 S_; clear S; have S := S_; clear S_) | (refine ev_owns (vs := [_, _, _, _, _, _]) S ?_ rfl m26 rfl (by repeat (first | exact Spot.here _ _ | apply Spot.there)) (by exact rfl) ?_; (first | exact want0 rfl | exact want1 rfl rfl rfl rfl)) | (refine ev_own1 S ?_ rfl o9 rfl (by repeat (first | exact Spot.here _ _ | apply Spot.there)) (by exact rfl) ?_; (first | exact want0 rfl | exact want1 rfl rfl rfl rfl)) | (refine ev_own1 S ?_ rfl o22 rfl (by repeat (first | exact Spot.here _ _ | apply Spot.there)) (by exact rfl) ?_; (first | exact want0 rfl | exact want1 rfl rfl rfl rfl)) | (refine ev_own1 S ?_ rfl o23 rfl (by repeat (first | exact Spot.here _ _ | apply Spot.there)) (by exact rfl) ?_; (first | exact want0 rfl | exact want1 rfl rfl rfl rfl)) | (refine ev_own1 S ?_ rfl o24 rfl (by repeat (first | exact Spot.here _ _ | apply Spot.there)) (by exact rfl) ?_; (first | exact want0 rfl | exact want1 rfl rfl rfl rfl)) | (refine ev_owns (vs := [_, _, _]) S ?_ rfl m50 rfl (by repeat (first | exact Spot.here _ _ | apply Spot.there)) (by exact rfl) ?_; (first | exact want0 rfl | exact want1 rfl rfl rfl rfl)) | ((with_reducible refine gate_dst (N := 7) rfl ?_); refine ev_alloc #[.int .u8 0, .int .u16 0, .int .u16 0] rfl S ?_ 7 rfl rfl z50 ?_; (first | exact want0 rfl | exact want1 rfl rfl rfl rfl); intro g7 w7 S_; clear S; have S := S_; clear S_) | (refine ev_puts S ?_ rfl rfl s50 rfl rfl (by repeat (first | exact Spot.here _ _ | apply Spot.there)) rfl ?_ ?_ ?_; (first | exact want0 rfl | exact want1 rfl rfl rfl rfl); rfl; rfl; intro w_ S_; simp only [putAt, List.set_cons_zero, List.set_cons_succ] at S_; clear S; have S := S_; clear S_) | (refine ev_own1 S ?_ rfl o47 rfl (by repeat (first | exact Spot.here _ _ | apply Spot.there)) (by exact rfl) ?_; (first | exact want0 rfl | exact want1 rfl rfl rfl rfl)) | (refine ev_own1 S ?_ rfl o48 rfl (by repeat (first | exact Spot.here _ _ | apply Spot.there)) (by exact rfl) ?_; (first | exact want0 rfl | exact want1 rfl rfl rfl rfl)) | (go_at_call 15; (with_reducible refine (budwoodref10_Check.calls 1000003 m.nm Aa1 ca1 m.ex Aa2 ca2 m.im Aa3 ca3 m.co Aa4 ca4 m.da Aa5 ca5 m.re f _ (HM.out.below S.out.below).r1 (HM.out.below S.out.below).l1 (HM.out.below S.out.below).r2 (HM.out.below S.out.below).l2 (HM.out.below S.out.below).r3 (HM.out.below S.out.below).l3 (HM.out.below S.out.below).r4 (HM.out.below S.out.below).l4 (HM.out.below S.out.below).r5 (HM.out.below S.out.below).l5 HCF.out).mono ?_); rintro z_ w_ ⟨rfl, hb_⟩; have hb2_ := hb_; have S_ := Aside0.mk (S.out.keep hb2_); clear hb2_ hb_; clear S; have S := S_; clear S_) | (go_at_call 27; (with_reducible refine (budwoodref03_Text.calls 5 m.nm t17 _ HT17.out).mono ?_); rintro z_ w_ ⟨v0, rfl, hR, hb_⟩; obtain ⟨A17, c17, rfl, _⟩ := Kd.R_reads hR; have S_ := Aside0.mk (St.add S.out hb_ (Ow (Kd.int .u8) 5 A17 c17 t17) (Ow.mk rfl hR) (Ow.new hR)); clear hR hb_; clear S; have S := S_; clear S_))
  have S2 := Aside0.mk S.out.drew
  clear S
  refine start_ (n := 10) (S := fun w' => w'.cell? ⟨g1, 0, none⟩ = some (.string m.nm) ∧ w'.cell? ⟨g1, 1, none⟩ = some (.slice Aa1 m.ex.length ca1) ∧ w'.cell? ⟨g1, 2, none⟩ = some (.slice Aa2 m.im.length ca2) ∧ w'.cell? ⟨g1, 3, none⟩ = some (.slice Aa3 m.co.length ca3) ∧ w'.cell? ⟨g1, 4, none⟩ = some (.slice Aa4 m.da.length ca4) ∧ w'.cell? ⟨g1, 5, none⟩ = some (.slice Aa5 m.re.length ca5)) (ds := []) #[false, false, false, false, false, false, false, false, false, false] (by kernel_rfl) rfl rfl ⟨((ocA S2 g1 0).trans rfl), ((ocA S2 g1 1).trans rfl), ((ocA S2 g1 2).trans rfl), ((ocA S2 g1 3).trans rfl), ((ocA S2 g1 4).trans rfl), ((ocA S2 g1 5).trans rfl)⟩ (fun hHeld => ?_)
  refine pure_ (i := 0) (N := some 19) (v := ?_) (a' := ?_) #[true, false, false, false, false, false, false, false, false, false] rfl rfl (by kernel_rfl) (fun _ _ _ h => h) (Or.inl ⟨by rfl, ?_⟩) ?_ ?_
  rotate_left
  · intro w'
    go_simp
    with_reducible rfl
  rotate_left
  · simp only [Act.put, List.setIfInBounds_toArray, List.set_cons_zero, List.set_cons_succ, i64_w, i32_w]
    rfl
  refine pure_ (i := 1) (N := some 20) (v := ?_) (a' := ?_) #[true, true, false, false, false, false, false, false, false, false] rfl rfl (by kernel_rfl) (fun _ _ _ h => h) (Or.inl ⟨by rfl, ?_⟩) ?_ ?_
  rotate_left
  · intro w'
    go_simp
    with_reducible rfl
  rotate_left
  · simp only [Act.put, List.setIfInBounds_toArray, List.set_cons_zero, List.set_cons_succ, i64_w, i32_w]
    rfl
  refine pure_ (i := 5) (N := some 24) (v := ?_) (a' := ?_) #[true, true, false, false, false, true, false, false, false, false] rfl rfl (by kernel_rfl) (fun _ _ _ h => h) (Or.inl ⟨by rfl, ?_⟩) ?_ ?_
  rotate_left
  · intro w'
    go_simp
    with_reducible rfl
  rotate_left
  · simp only [Act.put, List.setIfInBounds_toArray, List.set_cons_zero, List.set_cons_succ, i64_w, i32_w]
    rfl
  refine take_ (i := 2) (N := some 21) (v := ?_) (a' := ?_) #[true, true, true, false, false, true, false, false, false, false] rfl rfl (by kernel_rfl) (fun _ _ _ h => h) (Or.inl ⟨by rfl, ?_⟩) hHeld ?_ ?_
  rotate_left
  · rintro w' ⟨s0, s1, s2, s3, s4, s5⟩
    go_simp
    with_reducible rfl
  rotate_left
  · simp only [Act.put, List.setIfInBounds_toArray, List.set_cons_zero, List.set_cons_succ, i64_w, i32_w]
    rfl
  refine take_ (i := 6) (N := some 25) (v := ?_) (a' := ?_) #[true, true, true, false, false, true, true, false, false, false] rfl rfl (by kernel_rfl) (fun _ _ _ h => h) (Or.inl ⟨by rfl, ?_⟩) hHeld ?_ ?_
  rotate_left
  · rintro w' ⟨s0, s1, s2, s3, s4, s5⟩
    go_simp
    with_reducible rfl
  rotate_left
  · simp only [Act.put, List.setIfInBounds_toArray, List.set_cons_zero, List.set_cons_succ, i64_w, i32_w]
    rfl
  refine one_ (i := 3) (N := some 22) #[true, true, true, true, false, true, true, false, false, false] rfl rfl (by kernel_rfl) (by decide) (fun K hK => ?_)
  refine goes_ Try.func28 (by kernel_rfl) rfl #[.slice Aa1 m.ex.length ca1] (by rfl) rfl rfl (by simp only [List.map_toArray, List.map_cons, List.map_nil]; rfl) ?_
  with_reducible refine (budwoodref10_texts.calls 3000 Aa1 ca1 m.ex t22 _ (HM.out.below S2.out.below).r1 (HM.out.below S2.out.below).l1 HT22.out).mono ?_
  rintro z9 w22 ⟨v0, rfl, hR, hb_⟩
  obtain ⟨A22, c22, rfl, _⟩ := Kd.R_reads hR
  have S22 := Aside0.mk (St.add S2.out hb_ (Ow (Kd.int .u8) 5 A22 c22 t22) (Ow.mk rfl hR) (Ow.new hR))
  clear hR hb_
  refine ⟨_, rfl, ?_⟩
  refine hK.out _ _ ⟨((ocA S22 g1 0).trans rfl), ((ocA S22 g1 1).trans rfl), ((ocA S22 g1 2).trans rfl), ((ocA S22 g1 3).trans rfl), ((ocA S22 g1 4).trans rfl), ((ocA S22 g1 5).trans rfl)⟩ (fun hHeld => ?_)
  clear hK K
  refine norm_ (a' := ?_) ?_ ?_
  rotate_left
  · show Act.put _ (some 22) _ = _
    simp only [Act.put, List.setIfInBounds_toArray, List.set_cons_zero, List.set_cons_succ, i64_w, i32_w]
    rfl
  refine one_ (i := 4) (N := some 23) #[true, true, true, true, true, true, true, false, false, false] rfl rfl (by kernel_rfl) (by decide) (fun K hK => ?_)
  refine st_appz (.tmp 19) (.tmp 22) (A := A18) (c := c18) (A1 := A22) (c1 := c22) (N := some 23) (xs := o18) (ys := t22) (zs := o23) S22 (by rfl) rfl rfl rfl rfl (by repeat (first | exact Spot.here _ _ | apply Spot.there)) rfl (Ow.reads (pAt S22.out (Ow (Kd.int .u8) 5 A22 c22 t22))) (by omega) HZ23.out ?_
  intro A23 c23 w23 S23
  refine hK.out _ _ ⟨((ocA S23 g1 0).trans rfl), ((ocA S23 g1 1).trans rfl), ((ocA S23 g1 2).trans rfl), ((ocA S23 g1 3).trans rfl), ((ocA S23 g1 4).trans rfl), ((ocA S23 g1 5).trans rfl)⟩ (fun hHeld => ?_)
  clear hK K
  refine norm_ (a' := ?_) ?_ ?_
  rotate_left
  · show Act.put _ (some 23) _ = _
    simp only [Act.put, List.setIfInBounds_toArray, List.set_cons_zero, List.set_cons_succ, i64_w, i32_w]
    rfl
  refine one_ (i := 7) (N := some 26) #[true, true, true, true, true, true, true, true, false, false] rfl rfl (by kernel_rfl) (by decide) (fun K hK => ?_)
  refine goes_ Try.func28 (by kernel_rfl) rfl #[.slice Aa2 m.im.length ca2] (by rfl) rfl rfl (by simp only [List.map_toArray, List.map_cons, List.map_nil]; rfl) ?_
  with_reducible refine (budwoodref10_texts.calls 3000 Aa2 ca2 m.im t26 _ (HM.out.below S23.out.below).r2 (HM.out.below S23.out.below).l2 HT26.out).mono ?_
  rintro z9 w26 ⟨v0, rfl, hR, hb_⟩
  obtain ⟨A26, c26, rfl, _⟩ := Kd.R_reads hR
  have S26 := Aside0.mk (St.add S23.out hb_ (Ow (Kd.int .u8) 5 A26 c26 t26) (Ow.mk rfl hR) (Ow.new hR))
  clear hR hb_
  refine ⟨_, rfl, ?_⟩
  refine hK.out _ _ ⟨((ocA S26 g1 0).trans rfl), ((ocA S26 g1 1).trans rfl), ((ocA S26 g1 2).trans rfl), ((ocA S26 g1 3).trans rfl), ((ocA S26 g1 4).trans rfl), ((ocA S26 g1 5).trans rfl)⟩ (fun hHeld => ?_)
  clear hK K
  refine norm_ (a' := ?_) ?_ ?_
  rotate_left
  · show Act.put _ (some 26) _ = _
    simp only [Act.put, List.setIfInBounds_toArray, List.set_cons_zero, List.set_cons_succ, i64_w, i32_w]
    rfl
  refine one_ (i := 8) (N := some 27) #[true, true, true, true, true, true, true, true, true, false] rfl rfl (by kernel_rfl) (by decide) (fun K hK => ?_)
  refine st_appz (.tmp 23) (.tmp 26) (A := A23) (c := c23) (A1 := A26) (c1 := c26) (N := some 27) (xs := o23) (ys := t26) (zs := o27) S26 (by rfl) rfl rfl rfl rfl (by repeat (first | exact Spot.here _ _ | apply Spot.there)) rfl (Ow.reads (pAt S26.out (Ow (Kd.int .u8) 5 A26 c26 t26))) (by omega) HZ27.out ?_
  intro A27 c27 w27 S27
  refine hK.out _ _ ⟨((ocA S27 g1 0).trans rfl), ((ocA S27 g1 1).trans rfl), ((ocA S27 g1 2).trans rfl), ((ocA S27 g1 3).trans rfl), ((ocA S27 g1 4).trans rfl), ((ocA S27 g1 5).trans rfl)⟩ (fun hHeld => ?_)
  clear hK K
  refine norm_ (a' := ?_) ?_ ?_
  rotate_left
  · show Act.put _ (some 27) _ = _
    simp only [Act.put, List.setIfInBounds_toArray, List.set_cons_zero, List.set_cons_succ, i64_w, i32_w]
    rfl
  refine pure_ (i := 9) (N := some 5) (v := ?_) (a' := ?_) #[true, true, true, true, true, true, true, true, true, true] rfl rfl (by kernel_rfl) (fun _ _ _ h => h) (Or.inl ⟨by rfl, ?_⟩) ?_ ?_
  rotate_left
  · intro w'
    go_simp
    with_reducible rfl
  rotate_left
  · simp only [Act.put, List.setIfInBounds_toArray, List.set_cons_zero, List.set_cons_succ, i64_w, i32_w]
    rfl
  refine done_ (by kernel_rfl) ?_

  have S := S27
  clear S2 S22 S23 S26 S27
  go_wp2
  have S2 := Aside0.mk S.out.drew
  clear S
  refine start_ (n := 10) (S := fun w' => w'.cell? ⟨g1, 0, none⟩ = some (.string m.nm) ∧ w'.cell? ⟨g1, 1, none⟩ = some (.slice Aa1 m.ex.length ca1) ∧ w'.cell? ⟨g1, 2, none⟩ = some (.slice Aa2 m.im.length ca2) ∧ w'.cell? ⟨g1, 3, none⟩ = some (.slice Aa3 m.co.length ca3) ∧ w'.cell? ⟨g1, 4, none⟩ = some (.slice Aa4 m.da.length ca4) ∧ w'.cell? ⟨g1, 5, none⟩ = some (.slice Aa5 m.re.length ca5)) (ds := []) #[false, false, false, false, false, false, false, false, false, false] (by kernel_rfl) rfl rfl ⟨((ocA S2 g1 0).trans rfl), ((ocA S2 g1 1).trans rfl), ((ocA S2 g1 2).trans rfl), ((ocA S2 g1 3).trans rfl), ((ocA S2 g1 4).trans rfl), ((ocA S2 g1 5).trans rfl)⟩ (fun hHeld => ?_)
  refine pure_ (i := 0) (N := some 28) (v := ?_) (a' := ?_) #[true, false, false, false, false, false, false, false, false, false] rfl rfl (by kernel_rfl) (fun _ _ _ h => h) (Or.inl ⟨by rfl, ?_⟩) ?_ ?_
  rotate_left
  · intro w'
    go_simp
    with_reducible rfl
  rotate_left
  · simp only [Act.put, List.setIfInBounds_toArray, List.set_cons_zero, List.set_cons_succ, i64_w, i32_w]
    rfl
  refine pure_ (i := 1) (N := some 29) (v := ?_) (a' := ?_) #[true, true, false, false, false, false, false, false, false, false] rfl rfl (by kernel_rfl) (fun _ _ _ h => h) (Or.inl ⟨by rfl, ?_⟩) ?_ ?_
  rotate_left
  · intro w'
    go_simp
    with_reducible rfl
  rotate_left
  · simp only [Act.put, List.setIfInBounds_toArray, List.set_cons_zero, List.set_cons_succ, i64_w, i32_w]
    rfl
  refine pure_ (i := 5) (N := some 33) (v := ?_) (a' := ?_) #[true, true, false, false, false, true, false, false, false, false] rfl rfl (by kernel_rfl) (fun _ _ _ h => h) (Or.inl ⟨by rfl, ?_⟩) ?_ ?_
  rotate_left
  · intro w'
    go_simp
    with_reducible rfl
  rotate_left
  · simp only [Act.put, List.setIfInBounds_toArray, List.set_cons_zero, List.set_cons_succ, i64_w, i32_w]
    rfl
  refine take_ (i := 2) (N := some 30) (v := ?_) (a' := ?_) #[true, true, true, false, false, true, false, false, false, false] rfl rfl (by kernel_rfl) (fun _ _ _ h => h) (Or.inl ⟨by rfl, ?_⟩) hHeld ?_ ?_
  rotate_left
  · rintro w' ⟨s0, s1, s2, s3, s4, s5⟩
    go_simp
    with_reducible rfl
  rotate_left
  · simp only [Act.put, List.setIfInBounds_toArray, List.set_cons_zero, List.set_cons_succ, i64_w, i32_w]
    rfl
  refine take_ (i := 6) (N := some 34) (v := ?_) (a' := ?_) #[true, true, true, false, false, true, true, false, false, false] rfl rfl (by kernel_rfl) (fun _ _ _ h => h) (Or.inl ⟨by rfl, ?_⟩) hHeld ?_ ?_
  rotate_left
  · rintro w' ⟨s0, s1, s2, s3, s4, s5⟩
    go_simp
    with_reducible rfl
  rotate_left
  · simp only [Act.put, List.setIfInBounds_toArray, List.set_cons_zero, List.set_cons_succ, i64_w, i32_w]
    rfl
  refine one_ (i := 3) (N := some 31) #[true, true, true, true, false, true, true, false, false, false] rfl rfl (by kernel_rfl) (by decide) (fun K hK => ?_)
  refine goes_ Try.func29 (by kernel_rfl) rfl #[.slice Aa3 m.co.length ca3] (by rfl) rfl rfl (by simp only [List.map_toArray, List.map_cons, List.map_nil]; rfl) ?_
  with_reducible refine (budwoodref03_Words.calls 3000 Aa3 ca3 m.co t31 _ (HM.out.below S2.out.below).r3 (HM.out.below S2.out.below).l3 HT31.out).mono ?_
  rintro z9 w31 ⟨v0, rfl, hR, hb_⟩
  obtain ⟨A31, c31, rfl, _⟩ := Kd.R_reads hR
  have S31 := Aside0.mk (St.add S2.out hb_ (Ow (Kd.int .u8) 5 A31 c31 t31) (Ow.mk rfl hR) (Ow.new hR))
  clear hR hb_
  refine ⟨_, rfl, ?_⟩
  refine hK.out _ _ ⟨((ocA S31 g1 0).trans rfl), ((ocA S31 g1 1).trans rfl), ((ocA S31 g1 2).trans rfl), ((ocA S31 g1 3).trans rfl), ((ocA S31 g1 4).trans rfl), ((ocA S31 g1 5).trans rfl)⟩ (fun hHeld => ?_)
  clear hK K
  refine norm_ (a' := ?_) ?_ ?_
  rotate_left
  · show Act.put _ (some 31) _ = _
    simp only [Act.put, List.setIfInBounds_toArray, List.set_cons_zero, List.set_cons_succ, i64_w, i32_w]
    rfl
  refine one_ (i := 4) (N := some 32) #[true, true, true, true, true, true, true, false, false, false] rfl rfl (by kernel_rfl) (by decide) (fun K hK => ?_)
  refine st_appz (.tmp 28) (.tmp 31) (A := A27) (c := c27) (A1 := A31) (c1 := c31) (N := some 32) (xs := o27) (ys := t31) (zs := o32) S31 (by rfl) rfl rfl rfl rfl (by repeat (first | exact Spot.here _ _ | apply Spot.there)) rfl (Ow.reads (pAt S31.out (Ow (Kd.int .u8) 5 A31 c31 t31))) (by omega) HZ32.out ?_
  intro A32 c32 w32 S32
  refine hK.out _ _ ⟨((ocA S32 g1 0).trans rfl), ((ocA S32 g1 1).trans rfl), ((ocA S32 g1 2).trans rfl), ((ocA S32 g1 3).trans rfl), ((ocA S32 g1 4).trans rfl), ((ocA S32 g1 5).trans rfl)⟩ (fun hHeld => ?_)
  clear hK K
  refine norm_ (a' := ?_) ?_ ?_
  rotate_left
  · show Act.put _ (some 32) _ = _
    simp only [Act.put, List.setIfInBounds_toArray, List.set_cons_zero, List.set_cons_succ, i64_w, i32_w]
    rfl
  refine one_ (i := 7) (N := some 35) #[true, true, true, true, true, true, true, true, false, false] rfl rfl (by kernel_rfl) (by decide) (fun K hK => ?_)
  refine goes_ Try.func29 (by kernel_rfl) rfl #[.slice Aa4 m.da.length ca4] (by rfl) rfl rfl (by simp only [List.map_toArray, List.map_cons, List.map_nil]; rfl) ?_
  with_reducible refine (budwoodref03_Words.calls 3000 Aa4 ca4 m.da t35 _ (HM.out.below S32.out.below).r4 (HM.out.below S32.out.below).l4 HT35.out).mono ?_
  rintro z9 w35 ⟨v0, rfl, hR, hb_⟩
  obtain ⟨A35, c35, rfl, _⟩ := Kd.R_reads hR
  have S35 := Aside0.mk (St.add S32.out hb_ (Ow (Kd.int .u8) 5 A35 c35 t35) (Ow.mk rfl hR) (Ow.new hR))
  clear hR hb_
  refine ⟨_, rfl, ?_⟩
  refine hK.out _ _ ⟨((ocA S35 g1 0).trans rfl), ((ocA S35 g1 1).trans rfl), ((ocA S35 g1 2).trans rfl), ((ocA S35 g1 3).trans rfl), ((ocA S35 g1 4).trans rfl), ((ocA S35 g1 5).trans rfl)⟩ (fun hHeld => ?_)
  clear hK K
  refine norm_ (a' := ?_) ?_ ?_
  rotate_left
  · show Act.put _ (some 35) _ = _
    simp only [Act.put, List.setIfInBounds_toArray, List.set_cons_zero, List.set_cons_succ, i64_w, i32_w]
    rfl
  refine one_ (i := 8) (N := some 36) #[true, true, true, true, true, true, true, true, true, false] rfl rfl (by kernel_rfl) (by decide) (fun K hK => ?_)
  refine st_appz (.tmp 32) (.tmp 35) (A := A32) (c := c32) (A1 := A35) (c1 := c35) (N := some 36) (xs := o32) (ys := t35) (zs := o36) S35 (by rfl) rfl rfl rfl rfl (by repeat (first | exact Spot.here _ _ | apply Spot.there)) rfl (Ow.reads (pAt S35.out (Ow (Kd.int .u8) 5 A35 c35 t35))) (by omega) HZ36.out ?_
  intro A36 c36 w36 S36
  refine hK.out _ _ ⟨((ocA S36 g1 0).trans rfl), ((ocA S36 g1 1).trans rfl), ((ocA S36 g1 2).trans rfl), ((ocA S36 g1 3).trans rfl), ((ocA S36 g1 4).trans rfl), ((ocA S36 g1 5).trans rfl)⟩ (fun hHeld => ?_)
  clear hK K
  refine norm_ (a' := ?_) ?_ ?_
  rotate_left
  · show Act.put _ (some 36) _ = _
    simp only [Act.put, List.setIfInBounds_toArray, List.set_cons_zero, List.set_cons_succ, i64_w, i32_w]
    rfl
  refine pure_ (i := 9) (N := some 5) (v := ?_) (a' := ?_) #[true, true, true, true, true, true, true, true, true, true] rfl rfl (by kernel_rfl) (fun _ _ _ h => h) (Or.inl ⟨by rfl, ?_⟩) ?_ ?_
  rotate_left
  · intro w'
    go_simp
    with_reducible rfl
  rotate_left
  · simp only [Act.put, List.setIfInBounds_toArray, List.set_cons_zero, List.set_cons_succ, i64_w, i32_w]
    rfl
  refine done_ (by kernel_rfl) ?_

  have S := S36
  clear S2 S31 S32 S35 S36
  go_wp2_with (first | (((with_reducible refine gate_builtin (b := .append) (xs := #[.tmp 37, .tmp 42]) rfl ?_); at_builtin; refine ev_appz (.tmp 37) (.tmp 42) (xs := o36) (ys := t42) (zs := o43) S rfl rfl rfl rfl (by repeat (first | exact Spot.here _ _ | apply Spot.there)) rfl (Ow.reads (pAt S.out (Ow (Kd.int .u8) 5 A42 c42 t42))) (by omega) HZ43.out ?_; intro A43 c43 w_ S_; clear S; have S := S_; clear S_)) | ((with_reducible refine gate_dst (N := 1) rfl ?_); refine ev_boxs S ?_ 1 rfl rfl rfl ?_; (first | exact want0 rfl | exact want1 rfl rfl rfl rfl); intro g1 w1 S_; clear S; have S := S_; clear S_) | (refine ev_owns (vs := [_, _, _, _, _, _]) S ?_ rfl m26 rfl (by repeat (first | exact Spot.here _ _ | apply Spot.there)) (by exact rfl) ?_; (first | exact want0 rfl | exact want1 rfl rfl rfl rfl)) | (refine ev_own1 S ?_ rfl o9 rfl (by repeat (first | exact Spot.here _ _ | apply Spot.there)) (by exact rfl) ?_; (first | exact want0 rfl | exact want1 rfl rfl rfl rfl)) | (refine ev_own1 S ?_ rfl o22 rfl (by repeat (first | exact Spot.here _ _ | apply Spot.there)) (by exact rfl) ?_; (first | exact want0 rfl | exact want1 rfl rfl rfl rfl)) | (refine ev_own1 S ?_ rfl o23 rfl (by repeat (first | exact Spot.here _ _ | apply Spot.there)) (by exact rfl) ?_; (first | exact want0 rfl | exact want1 rfl rfl rfl rfl)) | (refine ev_own1 S ?_ rfl o24 rfl (by repeat (first | exact Spot.here _ _ | apply Spot.there)) (by exact rfl) ?_; (first | exact want0 rfl | exact want1 rfl rfl rfl rfl)) | (refine ev_owns (vs := [_, _, _]) S ?_ rfl m50 rfl (by repeat (first | exact Spot.here _ _ | apply Spot.there)) (by exact rfl) ?_; (first | exact want0 rfl | exact want1 rfl rfl rfl rfl)) | ((with_reducible refine gate_dst (N := 7) rfl ?_); refine ev_alloc #[.int .u8 0, .int .u16 0, .int .u16 0] rfl S ?_ 7 rfl rfl z50 ?_; (first | exact want0 rfl | exact want1 rfl rfl rfl rfl); intro g7 w7 S_; clear S; have S := S_; clear S_) | (refine ev_puts S ?_ rfl rfl s50 rfl rfl (by repeat (first | exact Spot.here _ _ | apply Spot.there)) rfl ?_ ?_ ?_; (first | exact want0 rfl | exact want1 rfl rfl rfl rfl); rfl; rfl; intro w_ S_; simp only [putAt, List.set_cons_zero, List.set_cons_succ] at S_; clear S; have S := S_; clear S_) | (refine ev_own1 S ?_ rfl o47 rfl (by repeat (first | exact Spot.here _ _ | apply Spot.there)) (by exact rfl) ?_; (first | exact want0 rfl | exact want1 rfl rfl rfl rfl)) | (refine ev_own1 S ?_ rfl o48 rfl (by repeat (first | exact Spot.here _ _ | apply Spot.there)) (by exact rfl) ?_; (first | exact want0 rfl | exact want1 rfl rfl rfl rfl)) | (go_at_call 30; (with_reducible refine (budwoodref03_Var.calls 5 _ t42 _ HT42.out).mono ?_); rintro z_ w_ ⟨v0, rfl, hR, hb_⟩; obtain ⟨A42, c42, rfl, _⟩ := Kd.R_reads hR; have S_ := Aside0.mk (St.add S.out hb_ (Ow (Kd.int .u8) 5 A42 c42 t42) (Ow.mk rfl hR) (Ow.new hR)); clear hR hb_; clear S; have S := S_; clear S_))
  go_loopw [5, 6] (fun v5 v6 wr => ∃ (i : Nat) (A' : Option Addr) (c' : Nat) (acc : List Int), v5 = .slice A' acc.length c' ∧ v6 = .int .i64 i ∧ i ≤ m.re.length ∧ acc.length ≤ 20200 + i * 2000 ∧ Aside0 (acc = o43 ++ (m.re.take i).flatMap lr) ∧ Aside0 (St w.heap.size w wr [Ow (Kd.int .u8) 5 A' c' acc, Bk g1 #[.string m.nm, .slice Aa1 m.ex.length ca1, .slice Aa2 m.im.length ca2, .slice Aa3 m.co.length ca3, .slice Aa4 m.da.length ca4, .slice Aa5 m.re.length ca5] 26])) (fun _ v6 _ => m.re.length - (intOf v6).toNat)
  case atStart => exact ⟨0, A43, c43, o43, rfl, rfl, Nat.zero_le _, by omega, ⟨by simp⟩, ⟨S.out.drop (by repeat (first | exact List.Sublist.refl _ | apply List.Sublist.cons_cons | apply List.Sublist.cons))⟩⟩
  case round =>
    clear S
    obtain ⟨i, A', c', acc, rfl, rfl, hi, hal, HA, S⟩ := hrel
    by_cases hlt : i < m.re.length
    · have hd2 : decide ((i : Int) < (m.re.length : Int)) = true := decide_eq_true (by omega)
      have hil : (i : Int) < (m.re.length : Int) := by omega
      have hi0 : (0 : Int) ≤ (i : Int) := by omega
      have hb0 : i + 1 ≤ m.re.length := hlt
      have HB1 := Aside0.mk (show m.re.length - (i + 1) < m.re.length - i by omega)
      have hpt : (m.re.take (i + 1)).flatMap lr = (m.re.take i).flatMap lr ++ lr (m.re.getD i z50) := by
        rw [List.take_succ_eq_append_getElem hlt, List.flatMap_append, List.getD_eq_getElem?_getD, List.getElem?_eq_getElem hlt]
        simp
      obtain ⟨ad, cs, he, hK, hH⟩ := has_of HC.out z50 i hlt
      subst he
      obtain ⟨x, hx⟩ : ∃ x, m.re.getD i z50 = x := ⟨_, rfl⟩
      rw [hx] at hK hpt
      obtain rfl := k50_open hK
      have HH := Aside0.mk (show Has w (ad.add (i * 3)) _ from hH)
      have hl1 := (num_len (x.f1 % 4294967296)).2
      have hl2 := (num_len (x.f2 % 4294967296)).2
      have hn1 := rvar_up (x.f1 % 4294967296) (by omega) (by omega) (Nat.le_refl 5)
      have hn2 := rvar_up (x.f2 % 4294967296) (by omega) (by omega) (Nat.le_refl 5)
      have hlr : lr x = [x.f0] ++ (num (x.f1 % 4294967296) ++ num (x.f2 % 4294967296)) := rfl
      obtain ⟨n1, e1⟩ : ∃ l, num (x.f1 % 4294967296) = l := ⟨_, rfl⟩
      obtain ⟨n2, e2⟩ : ∃ l, num (x.f2 % 4294967296) = l := ⟨_, rfl⟩
      rw [e1] at hl1 hn1 hlr
      rw [e2] at hl2 hn2 hlr
      have HN1 := Aside0.mk hn1
      have HN2 := Aside0.mk hn2
      obtain ⟨o60, z60⟩ : ∃ l, acc ++ [x.f0] = l := ⟨_, rfl⟩
      obtain ⟨o65, z65⟩ : ∃ l, o60 ++ n1 = l := ⟨_, rfl⟩
      obtain ⟨o71, z71⟩ : ∃ l, o65 ++ n2 = l := ⟨_, rfl⟩
      have k60 : o60.length ≤ acc.length + 1 := by rw [← z60, List.length_append]; simp
      have k65 : o65.length ≤ acc.length + 6 := by rw [← z65, List.length_append]; omega
      have k71 : o71.length ≤ acc.length + 11 := by rw [← z71, List.length_append]; omega
      have HA2 : Aside0 (o71 = o43 ++ (m.re.take (i + 1)).flatMap lr) := ⟨by rw [hpt, hlr, ← z71, ← z65, ← z60, HA.out]; simp [List.append_assoc]⟩
      have hal2 : o71.length ≤ 20200 + (i + 1) * 2000 := by omega
      have C60 := Aside0.mk (show acc.length + 1 ≤ 140737488355328 by omega)
      have C65 := Aside0.mk (show o60.length + n1.length ≤ 140737488355328 by omega)
      have C71 := Aside0.mk (show o65.length + n2.length ≤ 140737488355328 by omega)
      have HZ60 := Aside0.mk z60
      have HZ65 := Aside0.mk z65
      have HZ71 := Aside0.mk z71
      have HI1 := Aside0.mk (show wrap64 ((i : Int) + 1) = ((i + 1 : Nat) : Int) from w64 i (by omega))
      clear hpt hx hlr hn1 hn2 e1 e2 z60 z65 z71 hH
      go_wp2_with (first | (refine ev_loads (vs := [_, _, _]) ?_ rfl m50 rfl (olds_ S HH.out) ?_; (first | exact want0 rfl | exact want1 rfl rfl rfl rfl)) | (((with_reducible refine gate_builtin (b := .append) (xs := #[.tmp 66, .tmp 70]) rfl ?_); at_builtin; refine ev_appz (.tmp 66) (.tmp 70) (xs := o65) (ys := n2) (zs := o71) S rfl rfl rfl rfl (by repeat (first | exact Spot.here _ _ | apply Spot.there)) rfl (Ow.reads (pAt S.out (Ow (Kd.int .u8) 5 A70 c70 n2))) C71.out HZ71.out ?_; intro A71 c71 w_ S_; clear S; have S := S_; clear S_)) | ((with_reducible refine gate_dst (N := 1) rfl ?_); refine ev_boxs S ?_ 1 rfl rfl rfl ?_; (first | exact want0 rfl | exact want1 rfl rfl rfl rfl); intro g1 w1 S_; clear S; have S := S_; clear S_) | (refine ev_owns (vs := [_, _, _, _, _, _]) S ?_ rfl m26 rfl (by repeat (first | exact Spot.here _ _ | apply Spot.there)) (by exact rfl) ?_; (first | exact want0 rfl | exact want1 rfl rfl rfl rfl)) | (refine ev_own1 S ?_ rfl o9 rfl (by repeat (first | exact Spot.here _ _ | apply Spot.there)) (by exact rfl) ?_; (first | exact want0 rfl | exact want1 rfl rfl rfl rfl)) | (refine ev_own1 S ?_ rfl o22 rfl (by repeat (first | exact Spot.here _ _ | apply Spot.there)) (by exact rfl) ?_; (first | exact want0 rfl | exact want1 rfl rfl rfl rfl)) | (refine ev_own1 S ?_ rfl o23 rfl (by repeat (first | exact Spot.here _ _ | apply Spot.there)) (by exact rfl) ?_; (first | exact want0 rfl | exact want1 rfl rfl rfl rfl)) | (refine ev_own1 S ?_ rfl o24 rfl (by repeat (first | exact Spot.here _ _ | apply Spot.there)) (by exact rfl) ?_; (first | exact want0 rfl | exact want1 rfl rfl rfl rfl)) | (refine ev_owns (vs := [_, _, _]) S ?_ rfl m50 rfl (by repeat (first | exact Spot.here _ _ | apply Spot.there)) (by exact rfl) ?_; (first | exact want0 rfl | exact want1 rfl rfl rfl rfl)) | ((with_reducible refine gate_dst (N := 7) rfl ?_); refine ev_alloc #[.int .u8 0, .int .u16 0, .int .u16 0] rfl S ?_ 7 rfl rfl z50 ?_; (first | exact want0 rfl | exact want1 rfl rfl rfl rfl); intro g7 w7 S_; clear S; have S := S_; clear S_) | (refine ev_puts S ?_ rfl rfl s50 rfl rfl (by repeat (first | exact Spot.here _ _ | apply Spot.there)) rfl ?_ ?_ ?_; (first | exact want0 rfl | exact want1 rfl rfl rfl rfl); rfl; rfl; intro w_ S_; simp only [putAt, List.set_cons_zero, List.set_cons_succ] at S_; clear S; have S := S_; clear S_) | (refine ev_own1 S ?_ rfl o47 rfl (by repeat (first | exact Spot.here _ _ | apply Spot.there)) (by exact rfl) ?_; (first | exact want0 rfl | exact want1 rfl rfl rfl rfl)) | (refine ev_own1 S ?_ rfl o48 rfl (by repeat (first | exact Spot.here _ _ | apply Spot.there)) (by exact rfl) ?_; (first | exact want0 rfl | exact want1 rfl rfl rfl rfl)) | (go_at_call 30; (with_reducible refine (budwoodref03_Var.calls 5 (x.f2 % 4294967296) n2 _ HN2.out).mono ?_); rintro z_ w_ ⟨v0, rfl, hR, hb_⟩; obtain ⟨A70, c70, rfl, _⟩ := Kd.R_reads hR; have S_ := Aside0.mk (St.add S.out hb_ (Ow (Kd.int .u8) 5 A70 c70 n2) (Ow.mk rfl hR) (Ow.new hR)); clear hR hb_; clear S; have S := S_; clear S_))
      have S2 := Aside0.mk S.out.drew
      clear S
      refine start_ (n := 11) (S := fun w' => w'.cell? ⟨g7, 0, none⟩ = some (.int .u8 x.f0) ∧ w'.cell? ⟨g7, 1, none⟩ = some (.int .u16 x.f1) ∧ w'.cell? ⟨g7, 2, none⟩ = some (.int .u16 x.f2)) (ds := []) #[false, false, false, false, false, false, false, false, false, false, false] (by kernel_rfl) rfl rfl ⟨((ocA S2 g7 0).trans rfl), ((ocA S2 g7 1).trans rfl), ((ocA S2 g7 2).trans rfl)⟩ (fun hHeld => ?_)
      refine pure_ (i := 0) (N := some 56) (v := ?_) (a' := ?_) #[true, false, false, false, false, false, false, false, false, false, false] rfl rfl (by kernel_rfl) (fun _ _ _ h => h) (Or.inl ⟨by rfl, ?_⟩) ?_ ?_
      rotate_left
      · intro w'
        go_simp
        with_reducible rfl
      rotate_left
      · simp only [Act.put, List.setIfInBounds_toArray, List.set_cons_zero, List.set_cons_succ, i64_w, i32_w]
        rfl
      refine pure_ (i := 1) (N := some 57) (v := ?_) (a' := ?_) #[true, true, false, false, false, false, false, false, false, false, false] rfl rfl (by kernel_rfl) (fun _ _ _ h => h) (Or.inl ⟨by rfl, ?_⟩) ?_ ?_
      rotate_left
      · intro w'
        go_simp
        with_reducible rfl
      rotate_left
      · simp only [Act.put, List.setIfInBounds_toArray, List.set_cons_zero, List.set_cons_succ, i64_w, i32_w]
        rfl
      refine pure_ (i := 5) (N := some 61) (v := ?_) (a' := ?_) #[true, true, false, false, false, true, false, false, false, false, false] rfl rfl (by kernel_rfl) (fun _ _ _ h => h) (Or.inl ⟨by rfl, ?_⟩) ?_ ?_
      rotate_left
      · intro w'
        go_simp
        with_reducible rfl
      rotate_left
      · simp only [Act.put, List.setIfInBounds_toArray, List.set_cons_zero, List.set_cons_succ, i64_w, i32_w]
        rfl
      refine take_ (i := 2) (N := some 58) (v := ?_) (a' := ?_) #[true, true, true, false, false, true, false, false, false, false, false] rfl rfl (by kernel_rfl) (fun _ _ _ h => h) (Or.inl ⟨by rfl, ?_⟩) hHeld ?_ ?_
      rotate_left
      · rintro w' ⟨s0, s1, s2⟩
        go_simp
        with_reducible rfl
      rotate_left
      · simp only [Act.put, List.setIfInBounds_toArray, List.set_cons_zero, List.set_cons_succ, i64_w, i32_w]
        rfl
      refine take_ (i := 6) (N := some 62) (v := ?_) (a' := ?_) #[true, true, true, false, false, true, true, false, false, false, false] rfl rfl (by kernel_rfl) (fun _ _ _ h => h) (Or.inl ⟨by rfl, ?_⟩) hHeld ?_ ?_
      rotate_left
      · rintro w' ⟨s0, s1, s2⟩
        go_simp
        with_reducible rfl
      rotate_left
      · simp only [Act.put, List.setIfInBounds_toArray, List.set_cons_zero, List.set_cons_succ, i64_w, i32_w]
        rfl
      refine pure_ (i := 7) (N := some 63) (v := ?_) (a' := ?_) #[true, true, true, false, false, true, true, true, false, false, false] rfl rfl (by kernel_rfl) (fun _ _ _ h => h) (Or.inl ⟨by rfl, ?_⟩) ?_ ?_
      rotate_left
      · intro w'
        go_simp
        with_reducible rfl
      rotate_left
      · simp only [Act.put, List.setIfInBounds_toArray, List.set_cons_zero, List.set_cons_succ, i64_w, i32_w]
        rfl
      refine one_ (i := 3) (N := some 59) #[true, true, true, true, false, true, true, true, false, false, false] rfl rfl (by kernel_rfl) (by decide) (fun K hK => ?_)
      refine st_litS (d := Kd.int .u8) (e := 5) [x.f0] (inner := [.int .u8 x.f0]) rfl S2 (by rfl) 59 rfl (by first | (go_simp; done) | (go_simp; rfl)) (reps_scalar (enc := Value.int .u8) (h1 := fun _ => rfl) _ _ _ [x.f0]) (by simp) ?_
      intro A59 c59 w59 S59
      refine hK.out _ _ ⟨((ocA S59 g7 0).trans rfl), ((ocA S59 g7 1).trans rfl), ((ocA S59 g7 2).trans rfl)⟩ (fun hHeld => ?_)
      clear hK K
      refine norm_ (a' := ?_) ?_ ?_
      rotate_left
      · show Act.put _ (some 59) _ = _
        simp only [Act.put, List.setIfInBounds_toArray, List.set_cons_zero, List.set_cons_succ, i64_w, i32_w]
        rfl
      refine one_ (i := 4) (N := some 60) #[true, true, true, true, true, true, true, true, false, false, false] rfl rfl (by kernel_rfl) (by decide) (fun K hK => ?_)
      refine st_appz (.tmp 56) (.tmp 59) (A := A') (c := c') (A1 := A59) (c1 := c59) (N := some 60) (xs := acc) (ys := [x.f0]) (zs := o60) S59 (by rfl) rfl rfl rfl rfl (by repeat (first | exact Spot.here _ _ | apply Spot.there)) rfl (Ow.reads (pAt S59.out (Ow (Kd.int .u8) 5 A59 c59 [x.f0]))) C60.out HZ60.out ?_
      intro A60 c60 w60 S60
      refine hK.out _ _ ⟨((ocA S60 g7 0).trans rfl), ((ocA S60 g7 1).trans rfl), ((ocA S60 g7 2).trans rfl)⟩ (fun hHeld => ?_)
      clear hK K
      refine norm_ (a' := ?_) ?_ ?_
      rotate_left
      · show Act.put _ (some 60) _ = _
        simp only [Act.put, List.setIfInBounds_toArray, List.set_cons_zero, List.set_cons_succ, i64_w, i32_w]
        rfl
      refine one_ (i := 8) (N := some 64) #[true, true, true, true, true, true, true, true, true, false, false] rfl rfl (by kernel_rfl) (by decide) (fun K hK => ?_)
      refine goes_ Try.func30 (by kernel_rfl) rfl #[.int .u32 (x.f1 % 4294967296)] (by rfl) rfl rfl (by simp only [List.map_toArray, List.map_cons, List.map_nil]; rfl) ?_
      with_reducible refine (budwoodref03_Var.calls 5 (x.f1 % 4294967296) n1 _ HN1.out).mono ?_
      rintro z9 w64 ⟨v0, rfl, hR, hb_⟩
      obtain ⟨A64, c64, rfl, _⟩ := Kd.R_reads hR
      have S64 := Aside0.mk (St.add S60.out hb_ (Ow (Kd.int .u8) 5 A64 c64 n1) (Ow.mk rfl hR) (Ow.new hR))
      clear hR hb_
      refine ⟨_, rfl, ?_⟩
      refine hK.out _ _ ⟨((ocA S64 g7 0).trans rfl), ((ocA S64 g7 1).trans rfl), ((ocA S64 g7 2).trans rfl)⟩ (fun hHeld => ?_)
      clear hK K
      refine norm_ (a' := ?_) ?_ ?_
      rotate_left
      · show Act.put _ (some 64) _ = _
        simp only [Act.put, List.setIfInBounds_toArray, List.set_cons_zero, List.set_cons_succ, i64_w, i32_w]
        rfl
      refine one_ (i := 9) (N := some 65) #[true, true, true, true, true, true, true, true, true, true, false] rfl rfl (by kernel_rfl) (by decide) (fun K hK => ?_)
      refine st_appz (.tmp 60) (.tmp 64) (A := A60) (c := c60) (A1 := A64) (c1 := c64) (N := some 65) (xs := o60) (ys := n1) (zs := o65) S64 (by rfl) rfl rfl rfl rfl (by repeat (first | exact Spot.here _ _ | apply Spot.there)) rfl (Ow.reads (pAt S64.out (Ow (Kd.int .u8) 5 A64 c64 n1))) C65.out HZ65.out ?_
      intro A65 c65 w65 S65
      refine hK.out _ _ ⟨((ocA S65 g7 0).trans rfl), ((ocA S65 g7 1).trans rfl), ((ocA S65 g7 2).trans rfl)⟩ (fun hHeld => ?_)
      clear hK K
      refine norm_ (a' := ?_) ?_ ?_
      rotate_left
      · show Act.put _ (some 65) _ = _
        simp only [Act.put, List.setIfInBounds_toArray, List.set_cons_zero, List.set_cons_succ, i64_w, i32_w]
        rfl
      refine pure_ (i := 10) (N := some 5) (v := ?_) (a' := ?_) #[true, true, true, true, true, true, true, true, true, true, true] rfl rfl (by kernel_rfl) (fun _ _ _ h => h) (Or.inl ⟨by rfl, ?_⟩) ?_ ?_
      rotate_left
      · intro w'
        go_simp
        with_reducible rfl
      rotate_left
      · simp only [Act.put, List.setIfInBounds_toArray, List.set_cons_zero, List.set_cons_succ, i64_w, i32_w]
        rfl
      refine done_ (by kernel_rfl) ?_

      have S := S65
      clear S2 S59 S60 S64 S65
      go_wp2_with (first | (refine ev_loads (vs := [_, _, _]) ?_ rfl m50 rfl (olds_ S HH.out) ?_; (first | exact want0 rfl | exact want1 rfl rfl rfl rfl)) | (((with_reducible refine gate_builtin (b := .append) (xs := #[.tmp 66, .tmp 70]) rfl ?_); at_builtin; refine ev_appz (.tmp 66) (.tmp 70) (xs := o65) (ys := n2) (zs := o71) S rfl rfl rfl rfl (by repeat (first | exact Spot.here _ _ | apply Spot.there)) rfl (Ow.reads (pAt S.out (Ow (Kd.int .u8) 5 A70 c70 n2))) C71.out HZ71.out ?_; intro A71 c71 w_ S_; clear S; have S := S_; clear S_)) | ((with_reducible refine gate_dst (N := 1) rfl ?_); refine ev_boxs S ?_ 1 rfl rfl rfl ?_; (first | exact want0 rfl | exact want1 rfl rfl rfl rfl); intro g1 w1 S_; clear S; have S := S_; clear S_) | (refine ev_owns (vs := [_, _, _, _, _, _]) S ?_ rfl m26 rfl (by repeat (first | exact Spot.here _ _ | apply Spot.there)) (by exact rfl) ?_; (first | exact want0 rfl | exact want1 rfl rfl rfl rfl)) | (refine ev_own1 S ?_ rfl o9 rfl (by repeat (first | exact Spot.here _ _ | apply Spot.there)) (by exact rfl) ?_; (first | exact want0 rfl | exact want1 rfl rfl rfl rfl)) | (refine ev_own1 S ?_ rfl o22 rfl (by repeat (first | exact Spot.here _ _ | apply Spot.there)) (by exact rfl) ?_; (first | exact want0 rfl | exact want1 rfl rfl rfl rfl)) | (refine ev_own1 S ?_ rfl o23 rfl (by repeat (first | exact Spot.here _ _ | apply Spot.there)) (by exact rfl) ?_; (first | exact want0 rfl | exact want1 rfl rfl rfl rfl)) | (refine ev_own1 S ?_ rfl o24 rfl (by repeat (first | exact Spot.here _ _ | apply Spot.there)) (by exact rfl) ?_; (first | exact want0 rfl | exact want1 rfl rfl rfl rfl)) | (refine ev_owns (vs := [_, _, _]) S ?_ rfl m50 rfl (by repeat (first | exact Spot.here _ _ | apply Spot.there)) (by exact rfl) ?_; (first | exact want0 rfl | exact want1 rfl rfl rfl rfl)) | ((with_reducible refine gate_dst (N := 7) rfl ?_); refine ev_alloc #[.int .u8 0, .int .u16 0, .int .u16 0] rfl S ?_ 7 rfl rfl z50 ?_; (first | exact want0 rfl | exact want1 rfl rfl rfl rfl); intro g7 w7 S_; clear S; have S := S_; clear S_) | (refine ev_puts S ?_ rfl rfl s50 rfl rfl (by repeat (first | exact Spot.here _ _ | apply Spot.there)) rfl ?_ ?_ ?_; (first | exact want0 rfl | exact want1 rfl rfl rfl rfl); rfl; rfl; intro w_ S_; simp only [putAt, List.set_cons_zero, List.set_cons_succ] at S_; clear S; have S := S_; clear S_) | (refine ev_own1 S ?_ rfl o47 rfl (by repeat (first | exact Spot.here _ _ | apply Spot.there)) (by exact rfl) ?_; (first | exact want0 rfl | exact want1 rfl rfl rfl rfl)) | (refine ev_own1 S ?_ rfl o48 rfl (by repeat (first | exact Spot.here _ _ | apply Spot.there)) (by exact rfl) ?_; (first | exact want0 rfl | exact want1 rfl rfl rfl rfl)) | (go_at_call 30; (with_reducible refine (budwoodref03_Var.calls 5 (x.f2 % 4294967296) n2 _ HN2.out).mono ?_); rintro z_ w_ ⟨v0, rfl, hR, hb_⟩; obtain ⟨A70, c70, rfl, _⟩ := Kd.R_reads hR; have S_ := Aside0.mk (St.add S.out hb_ (Ow (Kd.int .u8) 5 A70 c70 n2) (Ow.mk rfl hR) (Ow.new hR)); clear hR hb_; clear S; have S := S_; clear S_))
      refine ⟨⟨i + 1, A71, c71, o71, rfl, by simp [HI1.out], hb0, hal2, HA2, ⟨S.out.drop (by repeat (first | exact List.Sublist.refl _ | apply List.Sublist.cons_cons | apply List.Sublist.cons))⟩⟩, ?_⟩
      simpa [intOf, HI1.out] using HB1.out
    · obtain rfl : i = m.re.length := by omega
      have hd2 : decide ((m.re.length : Int) < (m.re.length : Int)) = false := decide_eq_false (by omega)
      have ha : acc = en := by rw [hEN.out, HA.out, List.take_length]
      subst ha
      clear HA
      go_wp2_with (first | (refine ev_loads (vs := [_, _, _]) ?_ rfl m50 rfl (olds_ S HH.out) ?_; (first | exact want0 rfl | exact want1 rfl rfl rfl rfl)) | (((with_reducible refine gate_builtin (b := .append) (xs := #[.tmp 66, .tmp 70]) rfl ?_); at_builtin; refine ev_appz (.tmp 66) (.tmp 70) (xs := o65) (ys := n2) (zs := o71) S rfl rfl rfl rfl (by repeat (first | exact Spot.here _ _ | apply Spot.there)) rfl (Ow.reads (pAt S.out (Ow (Kd.int .u8) 5 A70 c70 n2))) C71.out HZ71.out ?_; intro A71 c71 w_ S_; clear S; have S := S_; clear S_)) | ((with_reducible refine gate_dst (N := 1) rfl ?_); refine ev_boxs S ?_ 1 rfl rfl rfl ?_; (first | exact want0 rfl | exact want1 rfl rfl rfl rfl); intro g1 w1 S_; clear S; have S := S_; clear S_) | (refine ev_owns (vs := [_, _, _, _, _, _]) S ?_ rfl m26 rfl (by repeat (first | exact Spot.here _ _ | apply Spot.there)) (by exact rfl) ?_; (first | exact want0 rfl | exact want1 rfl rfl rfl rfl)) | (refine ev_own1 S ?_ rfl o9 rfl (by repeat (first | exact Spot.here _ _ | apply Spot.there)) (by exact rfl) ?_; (first | exact want0 rfl | exact want1 rfl rfl rfl rfl)) | (refine ev_own1 S ?_ rfl o22 rfl (by repeat (first | exact Spot.here _ _ | apply Spot.there)) (by exact rfl) ?_; (first | exact want0 rfl | exact want1 rfl rfl rfl rfl)) | (refine ev_own1 S ?_ rfl o23 rfl (by repeat (first | exact Spot.here _ _ | apply Spot.there)) (by exact rfl) ?_; (first | exact want0 rfl | exact want1 rfl rfl rfl rfl)) | (refine ev_own1 S ?_ rfl o24 rfl (by repeat (first | exact Spot.here _ _ | apply Spot.there)) (by exact rfl) ?_; (first | exact want0 rfl | exact want1 rfl rfl rfl rfl)) | (refine ev_owns (vs := [_, _, _]) S ?_ rfl m50 rfl (by repeat (first | exact Spot.here _ _ | apply Spot.there)) (by exact rfl) ?_; (first | exact want0 rfl | exact want1 rfl rfl rfl rfl)) | ((with_reducible refine gate_dst (N := 7) rfl ?_); refine ev_alloc #[.int .u8 0, .int .u16 0, .int .u16 0] rfl S ?_ 7 rfl rfl z50 ?_; (first | exact want0 rfl | exact want1 rfl rfl rfl rfl); intro g7 w7 S_; clear S; have S := S_; clear S_) | (refine ev_puts S ?_ rfl rfl s50 rfl rfl (by repeat (first | exact Spot.here _ _ | apply Spot.there)) rfl ?_ ?_ ?_; (first | exact want0 rfl | exact want1 rfl rfl rfl rfl); rfl; rfl; intro w_ S_; simp only [putAt, List.set_cons_zero, List.set_cons_succ] at S_; clear S; have S := S_; clear S_) | (refine ev_own1 S ?_ rfl o47 rfl (by repeat (first | exact Spot.here _ _ | apply Spot.there)) (by exact rfl) ?_; (first | exact want0 rfl | exact want1 rfl rfl rfl rfl)) | (refine ev_own1 S ?_ rfl o48 rfl (by repeat (first | exact Spot.here _ _ | apply Spot.there)) (by exact rfl) ?_; (first | exact want0 rfl | exact want1 rfl rfl rfl rfl)) | (go_at_call 30; (with_reducible refine (budwoodref03_Var.calls 5 (x.f2 % 4294967296) n2 _ HN2.out).mono ?_); rintro z_ w_ ⟨v0, rfl, hR, hb_⟩; obtain ⟨A70, c70, rfl, _⟩ := Kd.R_reads hR; have S_ := Aside0.mk (St.add S.out hb_ (Ow (Kd.int .u8) 5 A70 c70 n2) (Ow.mk rfl hR) (Ow.new hR)); clear hR hb_; clear S; have S := S_; clear S_))
      refine retN (rs := [.tmp 2, .tmp 3]) rfl rfl ?_ (.tmp (.tmp .nil)) ?_
      · simp
      exact ⟨_, _, rfl, pred_at S.out (by repeat (first | exact Spot.here _ _ | apply Spot.there)), new_at S.out (by repeat (first | exact Spot.here _ _ | apply Spot.there)), S.out.below⟩
end Go.Proofs.Ytkoimdgpicmakaa.Ob
