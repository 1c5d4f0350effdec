/- Rows of structs that are one's own: an element read, written; a row cut, cleared behind, appended to. -/
import Derived.Test.YtajmfmgfdgdioaaEv
namespace Go.Proofs.Ytajmfmgfdgdioaa.Ev
open Go.RowKit Go.Proofs.Ytajmfmgfdgdioaa.Sep Go.Proofs.YtajmfmgfdgdioaaW.PrintWords Go.Proofs.YtajmfmgfdgdioaaW.PrintLast Go.Proofs.YtajmfmgfdgdioaaW.PrintMore
set_option linter.unusedVariables false
set_option linter.unusedSimpArgs false
section
variable {α : Type} {d : Kd α} {e c n base base' g : Nat} {ok ok' : Nat → Prop} {W W' : World} {A : Option Addr} {xs : List α}
/-- Elements that lead nowhere read the same in every world. -/
theorem flat_M {x : α} {cs : List Value} (hE : d.E = []) (h : d.M W base ok x cs) : d.M W' base ok' x cs := by
  have h1 : d.M W base (fun _ => False) x cs := d.M_mono (fun k hk => by obtain ⟨_, _, _, q, hq, _⟩ := hk; rw [hE] at hq; cases hq) (d.M_bound h)
  exact d.M_mono (fun k hk => hk.elim) (d.M_move (fun k hk => hk.elim) h1)
theorem Own.elem (h : (Own d e (some ⟨g, 0, none⟩) c xs).pred W) (z : α) (i : Nat) (hi : i < xs.length) : ∃ cs, d.K W (xs.getD i z) cs ∧ Has W ⟨g, i * d.sz, none⟩ cs := by
  obtain ⟨cs, hcl, hM, hc, _⟩ := Kd.R_elem (Own.row h) z (i : Int) (by omega) (by omega)
  rw [Int.toNat_natCast] at hM hc
  refine ⟨cs, d.K_of_M hM, fun j u hu => ?_⟩
  have : (⟨g, i * d.sz, none⟩ : Addr).add j = ⟨g, i * d.sz + j, none⟩ := by unfold Addr.add; split <;> simp_all
  rw [this]
  exact hc j u hu
theorem Own.blk (h : (Own d e (some ⟨g, 0, none⟩) c xs).pred W) : ∃ cur, W.heap[g]? = some (.cells cur e (0, 0)) ∧ cur.size = c * d.sz := by
  obtain ⟨_, inner, ho, hr⟩ := Own.row h
  rcases ho.2 with ⟨hv, _⟩ | ⟨g', cap', cur, hv, hb, hh, hnc', hcm, hcs, ht⟩
  · cases hv
  · injection hv with ha _ hc
    injection ha with ha
    injection ha with hg
    subst hg; subst hc
    exact ⟨cur, hh, hcs⟩
theorem Own.put (hE : d.E = []) (h : (Own d e (some ⟨g, 0, none⟩) c xs).pred W) (i : Nat) (hi : i < xs.length) {x : α} {seg : List Value} (hM : d.M W 0 (fun _ => False) x seg) (hl : seg.length = d.sz) :
    (Own d e (some ⟨g, 0, none⟩) c (xs.set i x)).pred (W.setCells g (i * d.sz) seg) := by
  obtain ⟨cs, hcl, _, hc, _⟩ := Kd.R_elem (Own.row h) x (i : Int) (by omega) (by omega)
  have h2 := (Kd.R_seg (okp := fun _ => False) (j := 0) (seg := seg) (x' := x) (Own.row h) (i : Int) (by omega) (by omega) hcl hc (by omega) (by simpa [hl, ← hcl] using hM) (fun _ hk => hk.elim)).1
  rw [Int.toNat_natCast, Nat.add_zero] at h2
  have e1 : (xs.set i x).length = xs.length := List.length_set ..
  refine Own.ofK ?_
  rw [e1]
  exact h2
theorem Own.take (hE : d.E = []) {m : Nat} (h : (Own d e A c xs).pred W) (hm : m ≤ xs.length) : (Own d e A c (xs.take m)).pred W := by
  have h1 := Kd.R_take (Own.row h) hm
  have e1 : (xs.take m).length = m := by rw [List.length_take]; omega
  refine Own.mk (ok := fun _ => True) (base := 0) hE ?_
  rw [e1]
  exact Kd.R_mono h1 (fun _ _ => trivial)
/-- What stands behind a row's end may be written. -/
theorem Own.behind (hE : d.E = []) (h : (Own d e (some ⟨g, 0, none⟩) c xs).pred W) {o : Nat} {seg : List Value} (ho : xs.length * d.sz ≤ o) (hf : o + seg.length ≤ c * d.sz) : (Own d e (some ⟨g, 0, none⟩) c xs).pred (W.setCells g o seg) := by
  obtain ⟨h0, inner, hown, hr⟩ := Own.row h
  refine Own.ofK ⟨h0, inner, ⟨hown.1, ?_⟩, hr.imp_ (fun p cs hp => flat_M hE hp)⟩
  rcases hown.2 with ⟨hv, _⟩ | ⟨g', cap', cur, hv, hb, hh, hnc', hcm, hcs, ht⟩
  · cases hv
  · injection hv with ha _ hc
    injection ha with ha
    injection ha with hg
    subst hg; subst hc
    obtain ⟨cur', h3, h4, h5⟩ := setCells_row seg o W cur hh (by omega)
    refine .inr ⟨g, c, cur', rfl, hb, h3, hnc', hcm, by rw [h4]; exact hcs, ?_⟩
    have hL : xs.length * d.sz ≤ cur.toList.length := Nat.le_trans (Nat.mul_le_mul_right _ (Own.cap h)) (Nat.le_of_eq (hcs.symm.trans (Array.length_toList (xs := cur)).symm))
    rw [h5, List.append_assoc, List.take_append_of_le_length (by rw [List.length_take]; omega), List.take_take, Nat.min_eq_left (by simpa using ho)]
    exact ht
end
section
variable {α : Type} {P : Program} {ops : Array Oper} {rest : List Oper} {o : Oper} {a : Act} {Q : Exit → Act → World → Prop} {B : Nat} {w W : World} {L : List Asn} {F F' : Asn → List Asn} {d : Kd α} {e : Nat}
/-- A store of a whole element. -/
theorem ev_rowputs {t : TypeId} {p x : Operand} {g i c n : Nat} {v : α} {xs : List α} {seg : List Value} (hE : d.E = []) (S : Aside0 (St B w W L)) (hw : Region.wanted o (yielded ops a.tmps) = true) (hN : o.dst = none) (ho : o.op = .store t p x) (ht : (P.info? t).map (·.size) = some n)
    (hp : a.eval p = .pointer (some ⟨g, i * d.sz, none⟩)) (hx : holds a x = some (.agg seg.toArray)) (hs : Spot L (Own d e (some ⟨g, 0, none⟩) c xs) F) (hi : i < xs.length) (hM : ∀ W, d.M W 0 (fun _ => False) v seg) (hl : seg.length = d.sz) (hn : n = d.sz)
    (h : ∀ w1, Aside0 (St B w w1 (F (Own d e (some ⟨g, 0, none⟩) c (xs.set i v)))) → wpList P ops Q rest a w1) : wpList P ops Q (o :: rest) a W := by
  have hO := pred_at S.out hs
  obtain ⟨cur, hg, hcs⟩ := Own.blk hO
  have hcap := Own.cap hO
  have h1 : ∀ q ∈ seg, q.oneCell' = true := d.K_one (d.K_of_M (hM W))
  have hmul : (i + 1) * d.sz ≤ c * d.sz := Nat.mul_le_mul_right _ (by omega)
  rw [Nat.succ_mul] at hmul
  have hr : (Instr.storeAt t (.pointer (some ⟨g, i * d.sz, none⟩)) (.agg seg.toArray)).run P W = .ok () (W.setCells g (i * d.sz) seg) :=
    run_store_run t _ seg hg (by simp [Value.cells]) (by rw [hl, ← hn]; exact ht) (by omega) h1
  refine wpList_step fun K hK => ?_
  rw [if_pos hw]
  unfold Oper.wp execOp
  simp only [ho, hp, eval_of hx, Sem.run_bind, Sem.run_pure, Result.andThen_ok, hr]
  show K (a.put o.dst undef) _
  rw [hN]
  obtain ⟨s1, s2, s3, s4⟩ := setCells_same g seg (i * d.sz) W
  have e1 : (xs.set i v).length = xs.length := List.length_set ..
  refine hK _ _ (h _ ⟨turn_at S.out hs s1 s2 s3 (by omega) (fun k _ hne => setCells_far seg _ k (fun e => hne (Own.foot_iff.2 (by rw [e]; rfl)))) (Own.put hE hO i hi (hM W) hl) (fun k hk => .inl ?_)⟩)
  rw [Own.foot_iff] at hk ⊢
  rw [e1] at hk
  exact hk
theorem mem_zeroCells {z : Array Value} {n : Nat} {v : Value} (h : v ∈ (Builtin.zeroCells z n).toList) : v ∈ z.toList := by
  unfold Builtin.zeroCells at h
  simp only [Array.toList_map, List.mem_map] at h
  obtain ⟨i, hi, rfl⟩ := h
  rw [Array.mem_toList_iff, Array.mem_range] at hi
  have hz : 0 < z.size := by
    rcases Nat.eq_zero_or_pos z.size with h0 | h0
    · rw [h0, Nat.mul_zero] at hi; omega
    · exact h0
  have hlt : i % z.size < z.size := Nat.mod_lt _ hz
  rw [getElem!_pos z _ hlt, Array.mem_toList_iff]
  exact Array.getElem_mem hlt
/-- clear of what stands behind a row's end. -/
theorem ev_clear {t et : TypeId} {x : Operand} {g c n c1 q : Nat} {xs : List α} {z : Value} (hE : d.E = []) (S : Aside0 (St B w W L)) (hgd : o.guard = none) (hN : o.dst = none) (ho : o.op = .call { callee := .builtin .clear, args := #[x], argTypes := #[t] })
    (ht : P.underlying t = some (.slice et)) (hz : (P.info? et).map (·.zero) = some (some z)) (hx : a.eval x = .slice (some ⟨g, q, none⟩) n c1) (hn : 0 < n) (hs : Spot L (Own d e (some ⟨g, 0, none⟩) c xs) F) (hq : xs.length * d.sz ≤ q) (hf : q + n * d.sz ≤ c * d.sz) (hzs : z.cells.size = d.sz) (h1 : z.cells.toList.all (fun v => v.oneCell') = true)
    (h : ∀ w1, Aside0 (St B w w1 (F (Own d e (some ⟨g, 0, none⟩) c xs))) → wpList P ops Q rest a w1) : wpList P ops Q (o :: rest) a W := by
  have hO := pred_at S.out hs
  obtain ⟨cur, hg, hcs⟩ := Own.blk hO
  obtain ⟨i0, hi0, hzz⟩ := Option.map_eq_some_iff.1 hz
  obtain ⟨m, rfl⟩ : ∃ m, n = m + 1 := ⟨n - 1, by omega⟩
  generalize hseg : (Builtin.zeroCells z.cells (m + 1)).toList = seg
  have hlen : seg.length = (m + 1) * d.sz := by rw [← hseg, Array.length_toList, size_zeroCells, hzs]
  have hone : ∀ v ∈ seg, v.oneCell' = true := by
    intro v hv
    rw [← hseg] at hv
    exact List.all_eq_true.1 h1 v (mem_zeroCells hv)
  have hst := run_storeCells_cells (P := P) g q seg 0 W (fun j hj => by rw [cell_of_row W g _ cur e (0, 0) hg]; simp; omega) (fun j _ => blk_frozen hg _) hone
  simp only [Nat.add_zero] at hst
  have hr : (Builtin.clear_ #[t] o.type #[.slice (some ⟨g, q, none⟩) (m + 1) c1]).run P W = .ok (.tuple #[]) (W.setCells g q seg) := by
    simp [Builtin.clear_, run_underlying ht, zeroValue, typeInfo, hi0, hzz, hseg, hst]
  refine wpList_plain hgd fun K hK => ?_
  unfold Oper.wp execOp
  simp only [ho, resolve, invoke, builtin, Sem.run_bind, Sem.run_pure, Result.andThen_ok, List.map_toArray, List.map_cons, List.map_nil, hx, hr]
  show K (a.put o.dst _) _
  rw [hN]
  obtain ⟨s1, s2, s3, s4⟩ := setCells_same g seg q W
  refine hK _ _ (h _ ⟨turn_at S.out hs s1 s2 s3 (by omega) (fun k _ hne => setCells_far seg _ k (fun e => hne (Own.foot_iff.2 (by rw [e]; rfl)))) (Own.behind hE hO hq (by omega)) (fun k hk => .inl hk)⟩)
/-- A literal of structs. -/
theorem ev_litS (xs : List α) {inner : List Value} (hE : d.E = []) (S : Aside0 (St B w W L)) (hgd : o.guard = none) (N : Tmp) (hN : o.dst = some N)
    (hrun : (execOp a.eval o).run P W = .ok (.value (.slice (some ⟨W.heap.size, 0, none⟩) xs.length xs.length)) (W.alloc (.cells inner.toArray e))) (hrep : Reps (d.M W W.heap.size (fun _ => True)) d.sz xs inner) (hm : xs.length ≤ 9223372036854775807)
    (h : ∀ A c w1, Aside0 (St B w w1 (Own d e A c xs :: L)) → wpList P ops Q rest (a.put (some N) (.slice A xs.length c)) w1) : wpList P ops Q (o :: rest) a W := by
  refine Kd.R_lit d (w0 := W) W.heap.size e hgd (N := N) hN (ok := fun _ => True) (okp := fun _ => True) hrun hrep (fun _ hk => hk) trivial (Below.refl _ _) (Nat.le_refl _) hm ?_
  intro v1 w1 hR hb hg hat
  obtain ⟨A, c, rfl, _⟩ := Kd.R_reads hR
  rw [hN]
  exact h A c w1 ⟨St.add S.out hb _ (Own.mk hE hR) (Own.new hR)⟩
/-- A row of structs that is read, appended to one's own. -/
theorem ev_rowsS (s x : Operand) (t : TypeId) (zv : Value) (bytes : Nat) {A A1 : Option Addr} {n m c c1 : Nat} {xs ys : List α} (hE : d.E = []) (hKM : ∀ W x cs, d.K W x cs → d.M W 0 (fun _ => False) x cs) (hs0 : 0 < d.sz) (S : Aside0 (St B w W L)) (hgd : o.guard = none) (ho : o.op = .call { callee := .builtin .append, args := #[s, x], argTypes := #[t, t] })
    (ht : P.underlying t = some (.slice e)) (hinfo : (P.info? e).map (fun i => (i.zero, i.size, i.bytes)) = some (some zv, d.sz, bytes)) (hz : zv.cells.size = d.sz) (hb0 : 0 < bytes) (hs : a.eval s = .slice A n c) (hx : a.eval x = .slice A1 m c1)
    (hsp : Spot L (Own d e A c xs) F) (hn : xs.length = n) (hC : d.C W A1 m ys) (hl : (xs.length + m) * bytes ≤ 140737488355328)
    (h : ∀ A' c' w1, Aside0 (St B w w1 (F (Own d e A' c' (xs ++ ys)))) → wpList P ops Q rest (a.put o.dst (.slice A' (xs ++ ys).length c')) w1) : wpList P ops Q (o :: rest) a W := by
  subst hn
  have hO := pred_at S.out hsp
  refine Kd.R_append_rows d (Rr := d.K W) (w0 := W) 0 hgd s x t e zv bytes ho ht hinfo hz hs0 hb0 _ xs ys A1 m c1 (fun _ => True) (fun _ => False) hs hx (Kd.R_mono (Own.row hO) (fun _ _ => trivial)) hC (fun x cs hk => hKM W x cs hk) (fun _ hk => hk.elim) (fun _ _ => trivial) (Below.refl 0 W) (Nat.zero_le _) hl ?_
  intro v1 w1 hR hb hg hat
  obtain ⟨A', c', rfl, _⟩ := Kd.R_reads hR
  refine h A' c' w1 ⟨turn_at S.out hsp hg.os hg.tape hg.output hg.size (fun k hk hne => hg.block k hk (fun e_ => hne (Own.foot_iff.2 e_.symm))) (Own.mk hE hR) (fun k hk => ?_)⟩
  have hk' := Own.foot_iff.1 hk
  rcases hat with e1 | ⟨b, e1, hbb⟩
  · exact .inl (Own.foot_iff.2 (e1.symm.trans hk'))
  · rw [e1] at hk'
    injection hk' with hk'
    exact .inr (hk' ▸ hbb)
end
section
variable {α : Type} {d : Kd α} {e : Nat} {W : World} {xs : List α} {inner : List Value}
theorem lit_R (hE : d.E = []) (hrep : Reps (d.M W W.heap.size (fun _ => True)) d.sz xs inner) (hm : xs.length ≤ 9223372036854775807) : Kd.R d e (W.alloc (.cells inner.toArray e)) W.heap.size (fun _ => True) (.slice (some ⟨W.heap.size, 0, none⟩) xs.length xs.length) xs :=
  ⟨fun _ _ => trivial, inner, by
    have h2 := World.ownsRow_lit (base := W.heap.size) (e := e) (size := d.sz) W inner.toArray xs.length (Nat.le_refl _) (by simpa [maxLen] using hm) (by simpa using hrep.1)
    simpa using h2, hrep.imp_ (fun p cs hp => flat_M hE hp)⟩
end
section
variable {α : Type} {P : Program} {ops : Array Oper} {o : Oper} {a : Act} {Q : Exit → Act → World → Prop} {K : Act → World → Prop} {B : Nat} {w W : World} {L : List Asn} {F : Asn → List Asn} {d : Kd α} {e : Nat}
/-- The same in a region that draws its order: a literal of structs, a row appended. -/
theorem st_litS (xs : List α) {inner : List Value} (hE : d.E = []) (S : Aside0 (St B w W L)) (hw : Region.wanted o (yielded ops a.tmps) = true) (N : Tmp) (hN : o.dst = some N)
    (hrun : (execOp a.eval o).run P W = .ok (.value (.slice (some ⟨W.heap.size, 0, none⟩) xs.length xs.length)) (W.alloc (.cells inner.toArray e))) (hrep : Reps (d.M W W.heap.size (fun _ => True)) d.sz xs inner) (hm : xs.length ≤ 9223372036854775807)
    (h : ∀ A c w1, Aside0 (St B w w1 (Own d e A c xs :: L)) → K (a.put (some N) (.slice A xs.length c)) w1) : if Region.wanted o (yielded ops a.tmps) = true then Oper.wp P o a W K Q else K (a.put (some N) undef) W := by
  rw [if_pos hw]
  unfold Oper.wp
  simp only [hrun]
  show K (a.put o.dst _) _
  rw [hN]
  have hR := lit_R (e := e) hE hrep hm
  exact h _ _ _ ⟨St.add S.out (below_alloc (Below.refl _ _) _) _ (Own.mk hE hR) (Own.new hR)⟩
theorem st_rowsS (s x : Operand) (t : TypeId) (zv : Value) (bytes : Nat) {A A1 : Option Addr} {N : Option Tmp} {n m c c1 : Nat} {xs ys : List α} (hE : d.E = []) (hKM : ∀ W x cs, d.K W x cs → d.M W 0 (fun _ => False) x cs) (hs0 : 0 < d.sz) (S : Aside0 (St B w W L)) (hw : Region.wanted o (yielded ops a.tmps) = true) (hN : o.dst = N) (ho : o.op = .call { callee := .builtin .append, args := #[s, x], argTypes := #[t, t] })
    (ht : P.underlying t = some (.slice e)) (hinfo : (P.info? e).map (fun i => (i.zero, i.size, i.bytes)) = some (some zv, d.sz, bytes)) (hz : zv.cells.size = d.sz) (hb0 : 0 < bytes) (hs : a.eval s = .slice A n c) (hx : a.eval x = .slice A1 m c1)
    (hsp : Spot L (Own d e A c xs) F) (hn : xs.length = n) (hC : d.C W A1 m ys) (hl : (xs.length + m) * bytes ≤ 140737488355328)
    (h : ∀ A' c' w1, Aside0 (St B w w1 (F (Own d e A' c' (xs ++ ys)))) → (∀ k, (Value.slice A' 0 0).ownBlock = some k → (Value.slice A 0 0).ownBlock = some k ∨ W.heap.size ≤ k) → K (a.put N (.slice A' (xs ++ ys).length c')) w1) : if Region.wanted o (yielded ops a.tmps) = true then Oper.wp P o a W K Q else K (a.put N undef) W := by
  subst hn hN
  have hO := pred_at S.out hsp
  refine Kd.R_append_rows_step d (Rr := d.K W) (w0 := W) 0 hw s x t e zv bytes ho ht hinfo hz hs0 hb0 _ xs ys A1 m c1 (fun _ => True) (fun _ => False) hs hx (Kd.R_mono (Own.row hO) (fun _ _ => trivial)) hC (fun x cs hk => hKM W x cs hk) (fun _ hk => hk.elim) (fun _ _ => trivial) (Below.refl 0 W) (Nat.zero_le _) hl ?_
  intro v1 w1 hR hb hg hat
  obtain ⟨A', c', rfl, _⟩ := Kd.R_reads hR
  refine h A' c' w1 ⟨turn_at S.out hsp hg.os hg.tape hg.output hg.size (fun k hk hne => hg.block k hk (fun e_ => hne (Own.foot_iff.2 e_.symm))) (Own.mk hE hR) (fun k hk => ?_)⟩ (fun k hk => ?_)
  · have hk' := Own.foot_iff.1 hk
    rcases hat with e1 | ⟨b, e1, hbb⟩
    · exact .inl (Own.foot_iff.2 (e1.symm.trans hk'))
    · rw [e1] at hk'
      injection hk' with hk'
      exact .inr (hk' ▸ hbb)
  · have hk' : (Value.slice A' (xs ++ ys).length c').ownBlock = some k := by cases A' <;> exact hk
    rcases hat with e1 | ⟨b, e1, hbb⟩
    · exact .inl (by have := e1.symm.trans hk'; cases A <;> exact this)
    · rw [e1] at hk'
      injection hk' with hk'
      exact .inr (hk' ▸ hbb)
end
end Go.Proofs.Ytajmfmgfdgdioaa.Ev
