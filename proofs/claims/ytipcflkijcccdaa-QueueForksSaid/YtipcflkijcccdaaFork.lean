/- A fork of a queue. -/
import Derived.Test.YtipcflkijcccdaaPairs
namespace Go.Proofs.Ytipcflkijcccdaa.Fork
open Go.RowKit Go.Proofs.Ytipcflkijcccdaa.Sep Go.Proofs.YtipcflkijcccdaaW.PrintWords Go.Proofs.YtipcflkijcccdaaW.PrintLast Go.Proofs.YtipcflkijcccdaaW.PrintMore Go.Proofs.Ytipcflkijcccdaa.Qu Go.Proofs.Ytipcflkijcccdaa.Ev Go.Proofs.Ytipcflkijcccdaa.Sys Go.Proofs.Ytipcflkijcccdaa.Ty Go.Proofs.Ytipcflkijcccdaa.Pairs Go.Proofs.Ytipcflkijcccdaa.PB
set_option linter.unusedVariables false
set_option linter.unusedSimpArgs false
theorem putAt_get : ∀ (r cs : List Value) (i j : Nat), (putAt cs i r)[j]? = if i ≤ j ∧ j < i + r.length ∧ j < cs.length then r[j - i]? else cs[j]?
  | [], cs, i, j => by
    simp only [putAt, List.length_nil, Nat.add_zero]
    rw [if_neg (by omega)]
  | v :: r, cs, i, j => by
    rw [putAt, putAt_get r (cs.set i v) (i + 1) j]
    simp only [List.length_set, List.length_cons, List.getElem?_set]
    by_cases h1 : j = i
    · subst h1
      rw [if_neg (by omega), if_pos rfl]
      by_cases h2 : j < cs.length
      · rw [if_pos h2, if_pos (by omega)]
        simp
      · rw [if_neg h2, if_neg (by omega)]
        simp; omega
    · rw [if_neg (show ¬ i = j from fun e => h1 e.symm)]
      by_cases h2 : i + 1 ≤ j ∧ j < i + 1 + r.length ∧ j < cs.length
      · rw [if_pos h2, if_pos (by omega), show j - i = (j - (i + 1)) + 1 by omega]
        simp
      · rw [if_neg h2, if_neg (by omega)]
theorem putAt_all (r cs : List Value) (h : r.length = cs.length) : putAt cs 0 r = r := by
  apply List.ext_getElem?
  intro j
  rw [putAt_get]
  by_cases hj : j < cs.length
  · rw [if_pos ⟨Nat.zero_le _, by omega, hj⟩]; simp
  · rw [if_neg (by omega), List.getElem?_eq_none (by omega), List.getElem?_eq_none (by omega)]
theorem lies_one {W : World} {g : Nat} {s : Nat → Slot} {f n m : Int} (h : Lies W g s f n m) : ∃ l : List Value, W.heap[g]? = some (.cells l.toArray 56 (0, 0)) ∧ l.length = 35 ∧ l.all (fun q => q.oneCell') = true ∧ ∀ (W' : World) (g' : Nat), W'.heap[g']? = some (.cells l.toArray 56 (0, 0)) → Lies W' g' s f n m := by
  obtain ⟨cs, h1, h2, h3, h4, h5, h6⟩ := h.cs
  refine ⟨cs.toList, by simpa using h1, by simpa using h2, ?_, fun W' g' h' => ⟨cs, by simpa using h', h2, h3, h4, h5, h6⟩⟩
  rw [List.all_eq_true]
  intro q hq
  obtain ⟨j, hj⟩ := List.getElem?_of_mem hq
  have hl := (List.getElem?_eq_some_iff.1 hj).1
  simp only [Array.length_toList, h2] at hl
  rw [Array.getElem?_toList] at hj
  by_cases h32 : j < 32
  · obtain ⟨a, b, c, d⟩ := h3 (j / 4) (by omega)
    rcases (show j = j / 4 * 4 ∨ j = j / 4 * 4 + 1 ∨ j = j / 4 * 4 + 2 ∨ j = j / 4 * 4 + 3 by omega) with e | e | e | e <;> rw [e] at hj
    · rw [a] at hj; obtain rfl := Option.some.inj hj; rfl
    · rw [b] at hj; obtain rfl := Option.some.inj hj; rfl
    · rw [c] at hj; obtain rfl := Option.some.inj hj; rfl
    · rw [d] at hj; obtain rfl := Option.some.inj hj; rfl
  · rcases (show j = 32 ∨ j = 33 ∨ j = 34 by omega) with rfl | rfl | rfl
    · rw [h4] at hj; obtain rfl := Option.some.inj hj; rfl
    · rw [h5] at hj; obtain rfl := Option.some.inj hj; rfl
    · rw [h6] at hj; obtain rfl := Option.some.inj hj; rfl
set_option maxRecDepth 100000 in
set_option maxHeartbeats 2000000 in
theorem fork_lies (g : Nat) (s : Nat → Slot) (f n m : Int) (w : World) (h : Lies w g s f n m) :
    Calls Try.prog 15 #[.pointer (some ⟨g, 0, none⟩)] w fun z w' => ∃ g', z = .returned (.pointer (some ⟨g', 0, none⟩)) ∧ w.heap.size ≤ g' ∧ Lies w' g' s f n m ∧ Below w.heap.size w w' := by
  obtain ⟨l, h1, h2, h3, h4⟩ := lies_one h
  have HH := Aside0.mk (Has.of_blk (g := g) (i := 0) (vs := l) h1 (fun j v hj => by simpa using hj))
  have HM := Aside0.mk (show Many Try.prog 56 l.length by rw [h2]; exact m56)
  have HL := Aside0.mk h2
  have HO := Aside0.mk h3
  have H4 := Aside0.mk h4
  have S := Aside0.mk (St.start w)
  clear h h1 h2 h3 h4
  go_enter Try.func15, Try.ntmps15
  go_wp2_with (first | (refine ev_loads (vs := l) ?_ rfl HM.out rfl (olds_ S HH.out) ?_; (first | exact want0 rfl | exact want1 rfl rfl rfl rfl)) | (refine ev_store S ?_ rfl rfl s56 rfl rfl (by repeat (first | exact Spot.here _ _ | apply Spot.there)) rfl HL.out ?_ HO.out ?_; (first | exact want0 rfl | exact want1 rfl rfl rfl rfl); rfl; intro w_ S_; clear S; have S := S_; clear S_) | ((with_reducible refine gate_dst (N := 3) rfl ?_); refine ev_alloc #[.int .i64 0, .int .u8 0, .string ⟨#[]⟩, .slice none 0 0, .int .i64 0, .int .u8 0, .string ⟨#[]⟩, .slice none 0 0, .int .i64 0, .int .u8 0, .string ⟨#[]⟩, .slice none 0 0, .int .i64 0, .int .u8 0, .string ⟨#[]⟩, .slice none 0 0, .int .i64 0, .int .u8 0, .string ⟨#[]⟩, .slice none 0 0, .int .i64 0, .int .u8 0, .string ⟨#[]⟩, .slice none 0 0, .int .i64 0, .int .u8 0, .string ⟨#[]⟩, .slice none 0 0, .int .i64 0, .int .u8 0, .string ⟨#[]⟩, .slice none 0 0, .int .i64 0, .int .i64 0, .int .i64 0] rfl S ?_ 3 rfl rfl z56 ?_; (first | exact want0 rfl | exact want1 rfl rfl rfl rfl); intro g3 w3 S_; clear S; have S := S_; clear S_))
  go_ret
  refine ⟨g3, rfl, new_at S.out (by repeat (first | exact Spot.here _ _ | apply Spot.there)) g3 Bk.at, H4.out _ _ ?_, S.out.below⟩
  have hb := Bk.heap (pred_at S.out (by repeat (first | exact Spot.here _ _ | apply Spot.there)))
  rw [putAt_all _ _ (by rw [Array.length_toList]; exact HL.out)] at hb
  simpa [Value.cells] using hb
theorem fork_pair {g : Nat} {m : Int} {L : List It} {v : Value} {R : List S57} {D : Nat → Prop} (w : World) (h : Pair w g m L v R D) :
    Calls Try.prog 15 #[.pointer (some ⟨g, 0, none⟩)] w fun z w' => ∃ g', z = .returned (.pointer (some ⟨g', 0, none⟩)) ∧ w.heap.size ≤ g' ∧ Pair w' g' m L v R D ∧ Below w.heap.size w w' := by
  obtain ⟨s, k, hk, hl, h8, hh⟩ := h.ring.lies
  refine (fork_lies g s k L.length m w hl).mono ?_
  rintro z w' ⟨g', rfl, hg, hl', hb⟩
  refine ⟨g', rfl, hg, ⟨⟨fun b hd => ?_, s, k, hk, hl', h8, fun j p hj => (hh j p hj).move (fun b hd => hb.block b (h.ring.away b hd).2) (fun b hd => hd)⟩, Kd.V_below h.view hb⟩, hb⟩
  have := h.ring.away b hd
  exact ⟨by omega, Nat.lt_of_lt_of_le this.2 hb.size⟩
/-- Two queues that share what they read, each with the document's. -/
def TwoA (g : Nat) (m : Int) (L : List It) (v : Value) (R : List S57) (g' : Nat) (m' : Int) (L' : List It) (v' : Value) (R' : List S57) (D : Nat → Prop) : Asn where
  foot k := k = g ∨ k = g' ∨ D k
  pred W := g ≠ g' ∧ Pair W g m L v R D ∧ Pair W g' m' L' v' R' D
  move h hp := ⟨hp.1, hp.2.1.move (fun b hb => h b (hb.imp_right .inr)), hp.2.2.move (fun b hb => h b (.inr hb))⟩
  lt hp k hk := by
    rcases hk with rfl | rfl | hk
    · exact hp.2.1.ring.lt
    · exact hp.2.2.ring.lt
    · exact (hp.2.1.ring.away k hk).2
section
variable {B : Nat} {w W W' : World} {g g' n c : Nat} {m m' m2 : Int} {L L' L2 : List It} {v v' v2 : Value} {R R' R2 : List S57} {D D' : Nat → Prop} {La : List Asn} {F : Asn → List Asn} {A : Option Addr}
theorem TwoA.ne (h : (TwoA g m L v R g' m' L' v' R' D).pred W) : g ≠ g' := h.1
theorem TwoA.l (h : (TwoA g m L v R g' m' L' v' R' D).pred W) : Pair W g m L v R D := h.2.1
theorem TwoA.r (h : (TwoA g m L v R g' m' L' v' R' D).pred W) : Pair W g' m' L' v' R' D := h.2.2
theorem TwoA.mk (h1 : g ≠ g') (h2 : Pair W g m L v R D) (h3 : Pair W g' m' L' v' R' D) : (TwoA g m L v R g' m' L' v' R' D).pred W := ⟨h1, h2, h3⟩
theorem TwoA.foot_iff {k : Nat} : (TwoA g m L v R g' m' L' v' R' D).foot k ↔ (k = g ∨ k = g' ∨ D k) := Iff.rfl
attribute [irreducible] TwoA
theorem fork_ev (S : Aside0 (St B w W La)) (hs : Spot La (PairA g m L v R D) F) :
    Calls Try.prog 15 #[.pointer (some ⟨g, 0, none⟩)] W fun z W' => ∃ g', z = .returned (.pointer (some ⟨g', 0, none⟩)) ∧ Aside0 (St B w W' (F (TwoA g m L v R g' m L v R D))) := by
  have hp := PairA.pair (pred_at S.out hs)
  refine (fork_pair W hp).mono ?_
  rintro z W' ⟨g', rfl, hg, hp', hb⟩
  have hl := hp.ring.lt
  refine ⟨g', rfl, ⟨turn_at S.out hs hb.os hb.tape hb.output hb.size (fun k hk _ => hb.block k hk) (TwoA.mk (by omega) (pair_below hp hb) hp') (fun k hk => ?_)⟩⟩
  rcases TwoA.foot_iff.1 hk with h | h | h
  · exact .inl (PairA.foot_iff.2 (.inl h))
  · exact .inr (h ▸ hg)
  · exact .inl (PairA.foot_iff.2 (.inr h))
theorem TwoA.stepR (S : Aside0 (St B w W La)) (hs : Spot La (TwoA g m L v R g' m' L' v' R' D) F) (hd : Done W g' m2 L2 v2 R2 D W') : ∃ D', Aside0 (St B w W' (F (TwoA g m L v R g' m2 L2 v2 R2 D'))) := by
  obtain ⟨T, D', h1, h2⟩ := hd
  have h0 := pred_at S.out hs
  have hl := TwoA.l h0
  have hr := TwoA.r h0
  have hne := TwoA.ne h0
  have hl' : Pair W' g m L v R D := hl.move (fun b hb => T.block b (by rcases hb with rfl | hb; exact hl.ring.lt; exact (hl.ring.away b hb).2) (by rcases hb with rfl | hb; exact hne; exact (hr.ring.away b hb).1))
  have aw : ∀ b, D b ∨ D' b → (b ≠ g ∧ b ≠ g') ∧ b < W'.heap.size := by
    intro b hb
    have hg := hl.ring.lt
    rcases hb with hb | hb
    · exact ⟨⟨(hl.ring.away b hb).1, (hr.ring.away b hb).1⟩, Nat.lt_of_lt_of_le (hl.ring.away b hb).2 T.size⟩
    · refine ⟨⟨?_, (h2.ring.away b hb).1⟩, (h2.ring.away b hb).2⟩
      rcases h1 b hb with h | h
      · exact (hl.ring.away b h).1
      · omega
  refine ⟨fun b => D b ∨ D' b, ⟨turn_at S.out hs T.os T.tape T.output T.size (fun k hk hn => T.block k hk (fun e => hn (TwoA.foot_iff.2 (.inr (.inl e))))) (TwoA.mk hne (hl'.more (fun b hb => .inl hb) (fun b hb => ⟨(aw b hb).1.1, (aw b hb).2⟩)) (h2.more (fun b hb => .inr hb) (fun b hb => ⟨(aw b hb).1.2, (aw b hb).2⟩))) (fun k hk => ?_)⟩⟩
  rcases TwoA.foot_iff.1 hk with h | h | h | h
  · exact .inl (TwoA.foot_iff.2 (.inl h))
  · exact .inl (TwoA.foot_iff.2 (.inr (.inl h)))
  · exact .inl (TwoA.foot_iff.2 (.inr (.inr h)))
  · exact (h1 k h).imp_left (fun h => TwoA.foot_iff.2 (.inr (.inr h)))
theorem TwoA.flip (S : Aside0 (St B w W La)) (hs : Spot La (TwoA g m L v R g' m' L' v' R' D) F) : Aside0 (St B w W (F (TwoA g' m' L' v' R' g m L v R D))) := by
  have h0 := pred_at S.out hs
  refine ⟨swap_at S.out hs (TwoA.mk (fun e => TwoA.ne h0 e.symm) (TwoA.r h0) (TwoA.l h0)) (fun k hk => ?_)⟩
  rcases TwoA.foot_iff.1 hk with h | h | h
  · exact TwoA.foot_iff.2 (.inr (.inl h))
  · exact TwoA.foot_iff.2 (.inl h)
  · exact TwoA.foot_iff.2 (.inr (.inr h))
theorem do2_ev {kd rk : Int} {nm : ByteArray} {Ao : Option Addr} {o : List Int} {co : Nat} (S : Aside0 (St w.heap.size w W La)) (hs : Spot La (TwoA g m L v R g' m' (R'.map it) (.slice A n c) R' D) F) (h8 : R'.length ≤ 8) (hm0 : 0 ≤ m') (hm1 : m' < 4611686018427387904)
    (hk0 : 0 ≤ kd) (hk1 : kd < 256) (hr : Kd.C (Kd.int .u8) w Ao o.length o) (hc : o.length ≤ co) (hl : o.length < 140737488355328) :
    Calls Try.prog 9 #[.pointer (some ⟨g', 0, none⟩), .agg #[.slice A n c, .int .i64 m'], .agg #[.int .u8 kd, .int .u8 rk, .string nm, .slice Ao o.length co]] W fun z W' => ∃ A' n' c' m2 R2 D', z = .returned (.tuple #[.agg #[.slice A' n' c', .int .i64 m2], .bool true]) ∧ m' ≤ m2 ∧ m2 ≤ m' + 1 ∧ R2.length ≤ 8 ∧ Aside0 (St w.heap.size w W' (F (TwoA g m L v R g' m2 (R2.map it) (.slice A' n' c') R2 D'))) := by
  have hg : w.heap.size ≤ g' := new_at S.out hs g' (TwoA.foot_iff.2 (.inr (.inl rfl)))
  have hrow : (Row Ao o).pred w := hr
  refine (do_any g' m' R' A n c D kd rk nm Ao o co W (TwoA.r (pred_at S.out hs)) h8 hm0 hm1 hk0 hk1 (Kd.C_below hr S.out.below) (fun k hk e => by have := (Row Ao o).lt hrow k hk; omega) hc hl).mono ?_
  rintro z W' ⟨m2, R2, h1, h2, h3, A', n', c', rfl, _, hd⟩
  obtain ⟨D', S'⟩ := TwoA.stepR S hs hd
  exact ⟨A', n', c', m2, R2, D', rfl, h1, h2, h3, S'⟩
theorem same2_ev (S : Aside0 (St B w W La)) (hs : Spot La (TwoA g m L v R g' m' (R'.map it) (.slice A n c) R' D) F) (h8 : R'.length ≤ 8) :
    Calls Try.prog 10 #[.pointer (some ⟨g', 0, none⟩), .agg #[.slice A n c, .int .i64 m']] W fun z W' => z = .returned (.bool true) ∧ ∃ D', Aside0 (St B w W' (F (TwoA g m L v R g' m' (R'.map it) (.slice A n c) R' D'))) := by
  refine (same_any g' m' R' A n c D W (TwoA.r (pred_at S.out hs)) h8).mono ?_
  rintro z W' ⟨rfl, hd⟩
  exact ⟨rfl, TwoA.stepR S hs hd⟩
end
end Go.Proofs.Ytipcflkijcccdaa.Fork
