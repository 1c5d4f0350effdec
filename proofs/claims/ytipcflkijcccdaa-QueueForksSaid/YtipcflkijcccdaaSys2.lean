/- The methods of both queues over what is told of both. -/
import Derived.Test.YtipcflkijcccdaaSys
namespace Go.Proofs.Ytipcflkijcccdaa.Sys
open Go.RowKit Go.Proofs.Ytipcflkijcccdaa.Sep Go.Proofs.YtipcflkijcccdaaW.PrintWords Go.Proofs.YtipcflkijcccdaaW.PrintLast Go.Proofs.YtipcflkijcccdaaW.PrintMore Go.Proofs.Ytipcflkijcccdaa.X Go.Proofs.Ytipcflkijcccdaa.Qu Go.Proofs.Ytipcflkijcccdaa.Ev Go.Proofs.Ytipcflkijcccdaa.PB
set_option linter.unusedVariables false
set_option linter.unusedSimpArgs false
section
variable {w W : World} {g : Nat} {m : Int} {L : List It} {v : Value} {R : List S57} {D D0 : Nat → Prop} {La : List Asn} {F : Asn → List Asn}
theorem below_turn {W W' : World} (g : Nat) (h : Below W.heap.size W W') : Turn W W' g := Turn.of_below g h
theorem pair_below {W W' : World} (h : Pair W g m L v R D) (hb : Below W.heap.size W W') : Pair W' g m L v R D :=
  h.move (fun b hb' => hb.block b (by rcases hb' with e | e; exact e ▸ h.ring.lt; exact (h.ring.away b e).2))
theorem peek_sys {p : It} (S : Aside0 (St 0 w W La)) (hs : Spot La (SysA w D0 g m (p :: L) v R D) F) :
    Calls Try.prog 16 #[.pointer (some ⟨g, 0, none⟩)] W fun z W' => ∃ A c, z = .returned (.tuple #[.agg #[.int .i64 p.num, .int .u8 p.kind, .string p.name, .slice A p.obj.length c], .bool true]) ∧ Aside0 (St 0 w W' (RowW A c p.obj :: F (SysA w D0 g m (p :: L) v R D))) := by
  have hp := SysA.pair (pred_at S.out hs)
  refine (ring_peek g m p L D W hp.ring).mono ?_
  rintro z W' ⟨A, c, rfl, hc, hR, hn, hR2, hb⟩
  exact ⟨A, c, rfl, SysA.step2 S hs (below_turn g hb) (pair_below hp hb) hR2 hn⟩
theorem peek0_sys (S : Aside0 (St 0 w W La)) (hs : Spot La (SysA w D0 g m [] v R D) F) :
    Calls Try.prog 16 #[.pointer (some ⟨g, 0, none⟩)] W fun z W' => z = .returned (.tuple #[.agg #[.int .i64 0, .int .u8 0, .string ⟨#[]⟩, .slice none 0 0], .bool false]) ∧ Aside0 (St 0 w W' La) := by
  have hp := SysA.pair (pred_at S.out hs)
  refine (ring_peek0 g m D W hp.ring).mono ?_
  rintro z W' ⟨rfl, hb⟩
  exact ⟨rfl, ⟨S.out.keep hb⟩⟩
theorem pop_sys {p : It} (S : Aside0 (St 0 w W La)) (hs : Spot La (SysA w D0 g m (p :: L) v R D) F) :
    Calls Try.prog 12 #[.pointer (some ⟨g, 0, none⟩)] W fun z W' => ∃ A c, z = .returned (.tuple #[.agg #[.int .i64 p.num, .int .u8 p.kind, .string p.name, .slice A p.obj.length c], .bool true]) ∧ Aside0 (St 0 w W' (RowW A c p.obj :: F (SysA w D0 g m L v R D))) := by
  have hp := SysA.pair (pred_at S.out hs)
  refine (ring_pop g m p L D W hp.ring).mono ?_
  rintro z W' ⟨A, c, rfl, hc, hR, hn, hR2, hR', hT⟩
  exact ⟨A, c, rfl, SysA.step2 S hs hT ⟨hR', Kd.V_step hp.view (fun k hk _ => hT.block k (hp.ring.away k hk).2 (hp.ring.away k hk).1)⟩ hR2 hn⟩
theorem pop0_sys (S : Aside0 (St 0 w W La)) (hs : Spot La (SysA w D0 g m [] v R D) F) :
    Calls Try.prog 12 #[.pointer (some ⟨g, 0, none⟩)] W fun z W' => z = .returned (.tuple #[.agg #[.int .i64 0, .int .u8 0, .string ⟨#[]⟩, .slice none 0 0], .bool false]) ∧ Aside0 (St 0 w W' La) := by
  have hp := SysA.pair (pred_at S.out hs)
  refine (ring_pop0 g m D W hp.ring).mono ?_
  rintro z W' ⟨rfl, hb⟩
  exact ⟨rfl, ⟨S.out.keep hb⟩⟩
theorem push_ok_sys {kind : Int} {name : ByteArray} {A : Option Addr} {c : Nat} {o : List Int} {F' : Asn → List Asn} (S : Aside0 (St 0 w W La)) (hs : Spot La (SysA w D0 g m L v R D) F) (hr : Spot La (RowW A c o) F') (hg : ∀ k, (RowW A c o).foot k → k ≠ g) (hf : L.length < 8) (hm0 : 0 ≤ m) (hm1 : m < 4611686018427387904) (hm : o.length < 140737488355328) :
    Calls Try.prog 11 #[.pointer (some ⟨g, 0, none⟩), .agg #[.int .u8 kind, .string name, .slice A o.length c]] W fun z W' => z = .returned (.tuple #[.int .i64 m, .int .i64 0]) ∧ ∃ D', Aside0 (St 0 w W' (F (SysA w D0 g (m + 1) (L ++ [⟨m, kind, name, o⟩]) v R D'))) := by
  have hp := SysA.pair (pred_at S.out hs)
  have hrow := pred_at S.out hr
  refine (ring_push_ok g m L D kind name A c o W hp.ring hf hm0 hm1 (RowW.reads hrow) (fun k hk => hg k (RowW.of (W := W) hk)) (RowW.cap hrow) hm).mono ?_
  rintro z W' ⟨rfl, D', hd, hR', hT⟩
  refine ⟨rfl, fun b => D b ∨ D' b, SysA.step S hs hT ⟨?_, Kd.V_mono (Kd.V_step hp.view (fun k hk _ => hT.block k (hp.ring.away k hk).2 (hp.ring.away k hk).1)) (fun k hk => .inl hk)⟩ (fun b hb => hb.elim .inl (hd b))⟩
  obtain ⟨s, k, h1, h2, h3, h4⟩ := hR'.lies
  exact ⟨fun b hb => hb.elim (fun h => ⟨(hp.ring.away b h).1, Nat.lt_of_lt_of_le (hp.ring.away b h).2 hT.size⟩) (hR'.away b), s, k, h1, h2, h3, fun j p hj => (h4 j p hj).move (fun _ _ => rfl) (fun b hb => .inr hb)⟩
theorem push_full_sys {kind : Int} {name : ByteArray} {A : Option Addr} {c : Nat} {o : List Int} {F' : Asn → List Asn} (S : Aside0 (St 0 w W La)) (hs : Spot La (SysA w D0 g m L v R D) F) (hr : Spot La (RowW A c o) F') (hg : ∀ k, (RowW A c o).foot k → k ≠ g) (hf : ¬ L.length < 8) (hm0 : 0 ≤ m) (hm1 : m < 4611686018427387904) (hm : o.length < 140737488355328) :
    Calls Try.prog 11 #[.pointer (some ⟨g, 0, none⟩), .agg #[.int .u8 kind, .string name, .slice A o.length c]] W fun z W' => z = .returned (.tuple #[.int .i64 m, .int .i64 31]) ∧ ∃ D', Aside0 (St 0 w W' (F (SysA w D0 g (m + 1) L v R D'))) := by
  have hp := SysA.pair (pred_at S.out hs)
  have hrow := pred_at S.out hr
  refine (ring_push_full g m L D kind name A c o W hp.ring hf hm0 hm1 (RowW.reads hrow) (fun k hk => hg k (RowW.of (W := W) hk)) (RowW.cap hrow) hm).mono ?_
  rintro z W' ⟨rfl, D', hd, hR', hT⟩
  refine ⟨rfl, fun b => D b ∨ D' b, SysA.step S hs hT ⟨?_, Kd.V_mono (Kd.V_step hp.view (fun k hk _ => hT.block k (hp.ring.away k hk).2 (hp.ring.away k hk).1)) (fun k hk => .inl hk)⟩ (fun b hb => hb.elim .inl (hd b))⟩
  obtain ⟨s, k, h1, h2, h3, h4⟩ := hR'.lies
  exact ⟨fun b hb => hb.elim (fun h => ⟨(hp.ring.away b h).1, Nat.lt_of_lt_of_le (hp.ring.away b h).2 hT.size⟩) (hR'.away b), s, k, h1, h2, h3, fun j p hj => (h4 j p hj).move (fun _ _ => rfl) (fun b hb => .inr hb)⟩
theorem len_sys (S : Aside0 (St 0 w W La)) (hs : Spot La (SysA w D0 g m L v R D) F) :
    Calls Try.prog 14 #[.pointer (some ⟨g, 0, none⟩)] W fun z W' => z = .returned (.int .i64 (L.length : Nat)) ∧ W' = W :=
  ring_len g m L D W (SysA.pair (pred_at S.out hs)).ring
theorem came_sys (S : Aside0 (St 0 w W La)) (hs : Spot La (SysA w D0 g m L v R D) F) :
    Calls Try.prog 13 #[.pointer (some ⟨g, 0, none⟩)] W fun z W' => z = .returned (.int .i64 m) ∧ W' = W :=
  ring_came g m L D W (SysA.pair (pred_at S.out hs)).ring
/-- The ring with more data told. -/
theorem Pair.more {W : World} {D' : Nat → Prop} (h : Pair W g m L v R D) (hd : ∀ b, D b → D' b) (ha : ∀ b, D' b → b ≠ g ∧ b < W.heap.size) : Pair W g m L v R D' := by
  obtain ⟨s, k, h1, h2, h3, h4⟩ := h.ring.lies
  exact ⟨⟨ha, s, k, h1, h2, h3, fun j p hj => (h4 j p hj).move (fun _ _ => rfl) hd⟩, Kd.V_mono h.view hd⟩
/-- What is new since W, and what was told. -/
def New (W W' : World) (D : Nat → Prop) (k : Nat) : Prop := D k ∨ (W.heap.size ≤ k ∧ k < W'.heap.size)
theorem away_new {W W' : World} (h : Pair W g m L v R D) (hb : Below W.heap.size W W') : ∀ b, New W W' D b → b ≠ g ∧ b < W'.heap.size := by
  intro b hd
  have := h.ring.lt
  rcases hd with hd | hd
  · exact ⟨(h.ring.away b hd).1, Nat.lt_of_lt_of_le (h.ring.away b hd).2 hb.size⟩
  · exact ⟨by omega, hd.2⟩
theorem push_f_ok {l : List S57} {a0 a1 : Int} {nm : ByteArray} {o : List Int} (h8 : l.length < 8) (ho : o.length < 140737488355328) (hm0 : 0 ≤ a0) (hm1 : a0 < 4611686018427387904) : budwoodref19_Queue_Push.f l a0 a1 nm o = some (l ++ [⟨a0, ⟨a1, nm, o⟩⟩], a0 + 1, a0, 0) := by
  unfold budwoodref19_Queue_Push.f
  have hw : wrap64 (a0 + 1) = a0 + 1 := by unfold wrap64; omega
  rw [if_neg (by omega)]
  simp only [Option.bind_some, List.length_nil, List.length_cons, List.nil_append, hw]
  rw [if_pos (by omega), if_pos (by omega), if_pos (by omega)]
theorem push_f_full {l : List S57} {a0 a1 : Int} {nm : ByteArray} {o : List Int} (h8 : ¬ l.length < 8) (hm0 : 0 ≤ a0) (hm1 : a0 < 4611686018427387904) : budwoodref19_Queue_Push.f l a0 a1 nm o = some (l, a0 + 1, a0, 31) := by
  unfold budwoodref19_Queue_Push.f
  have hw : wrap64 (a0 + 1) = a0 + 1 := by unfold wrap64; omega
  rw [if_pos (by omega), hw]
theorem rpush_sys {kind : Int} {name : ByteArray} {A A1 : Option Addr} {n c c1 : Nat} {o : List Int} {r1 : List S57} {m' r2 r3 r4 : Int} (S : Aside0 (St 0 w W La)) (hs : Spot La (SysA w D0 g m L (.slice A n c) R D) F) (hC : Kd.C (Kd.int .u8) W A1 o.length o) (hc : o.length ≤ c1) (hf : budwoodref19_Queue_Push.f R m' kind name o = some (r1, r2, r3, r4)) :
    Calls Try.prog 21 #[.agg #[.slice A n c, .int .i64 m'], .agg #[.int .u8 kind, .string name, .slice A1 o.length c1]] W fun z W' => ∃ A' n' c', z = .returned (.tuple #[.agg #[.slice A' n' c', .int .i64 r2], .int .i64 r3, .int .i64 r4]) ∧ ∃ D', Aside0 (St 0 w W' (F (SysA w D0 g m L (.slice A' n' c') r1 D'))) := by
  have hp := SysA.pair (pred_at S.out hs)
  obtain rfl : n = R.length := (Kd.V_reads' hp.view).1
  refine (budwoodref19_Queue_Push.calls D A c R m' kind name A1 c1 o r1 r2 r3 r4 W hp.view hC hc hf).mono ?_
  rintro z W' ⟨v0, rfl, hV, hb⟩
  obtain ⟨A', c', rfl, hl', hF'⟩ := Kd.V_bound hV
  have hp' := (pair_below hp hb).more (D' := New W W' D) (fun b hb => .inl hb) (away_new hp hb)
  exact ⟨A', _, c', rfl, New W W' D, SysA.step S hs (below_turn g hb) ⟨hp'.ring, A', c', rfl, hl', Kd.F_mono hF' (fun k hk => hk.1.elim .inl (fun h => .inr ⟨h, hk.2⟩))⟩ (fun b hb => hb.imp_right (fun h => h.1))⟩
theorem pop_f {x : S57} {l : List S57} {a0 : Int} (h : l.length < 8) : budwoodref19_Queue_Pop.f (x :: l) a0 = some (l, a0, x.f0, x.f1.f0, x.f1.f1, x.f1.f2, true) := by
  unfold budwoodref19_Queue_Pop.f
  rw [if_neg (by simp only [List.length_cons]; omega), if_pos (by simp only [List.length_cons]; omega), if_pos (by simp only [List.length_cons]; omega)]
  rfl
theorem pop_f0 {a0 : Int} : budwoodref19_Queue_Pop.f [] a0 = some ([], a0, 0, 0, ⟨#[]⟩, [], false) := by
  unfold budwoodref19_Queue_Pop.f
  rw [if_pos (by simp)]
/-- The document's Pop: the list goes on as what is left. -/
theorem rpop_sys {x : S57} {A : Option Addr} {n c : Nat} {m' : Int} (S : Aside0 (St 0 w W La)) (hs : Spot La (SysA w D0 g m L (.slice A n c) (x :: R) D) F) (h8 : R.length < 8) :
    Calls Try.prog 19 #[.agg #[.slice A n c, .int .i64 m']] W fun z W' => ∃ A' c' A5 c5, z = .returned (.tuple #[.agg #[.slice A' R.length c', .int .i64 m'], .agg #[.int .i64 x.f0, .int .u8 x.f1.f0, .string x.f1.f1, .slice A5 x.f1.f2.length c5], .bool true]) ∧
      ∃ D', Aside0 (St 0 w W' (F (both (SysA w D0 g m L (.slice A' R.length c') R D') (View (Kd.int .u8) 5 D' (.slice A5 x.f1.f2.length c5) x.f1.f2)))) := by
  have hp := SysA.pair (pred_at S.out hs)
  obtain rfl : n = (x :: R).length := (Kd.V_reads' hp.view).1
  refine (budwoodref19_Queue_Pop.calls D A c (x :: R) m' _ _ _ _ _ _ _ W hp.view (pop_f h8)).mono ?_
  rintro z W' ⟨v0, v5, rfl, hV, hV5, hb⟩
  obtain ⟨A', c', rfl, hl', hF'⟩ := Kd.V_bound hV
  obtain ⟨A5, c5, rfl, hl5, hF5⟩ := Kd.V_bound hV5
  have hp' := (pair_below hp hb).more (D' := New W W' D) (fun b hb => .inl hb) (away_new hp hb)
  have hn : ∀ k, (D k ∨ W.heap.size ≤ k) ∧ k < W'.heap.size → New W W' D k := fun k hk => hk.1.elim .inl (fun h => .inr ⟨h, hk.2⟩)
  have S1 := SysA.step (R' := R) (v' := .slice A' R.length c') (D' := New W W' D) S hs (below_turn g hb) ⟨hp'.ring, A', c', rfl, hl', Kd.F_mono hF' hn⟩ (fun b hb => hb.imp_right (fun h => h.1))
  refine ⟨A', c', A5, c5, rfl, New W W' D, ?_⟩
  obtain ⟨pre, post, e1, e2⟩ := hs.split
  rw [e2] at S1 ⊢
  have hm : SysA w D0 g m L (.slice A' R.length c') R (New W W' D) ∈ pre ++ SysA w D0 g m L (.slice A' R.length c') R (New W W' D) :: post := List.mem_append_right _ List.mem_cons_self
  refine ⟨S1.out.turn rfl rfl rfl (Nat.le_refl _) (fun _ _ _ => rfl) ⟨S1.out.holds _ hm, ?_⟩ (fun k hk => .inl (hk.elim id (fun h => SysA.foot_iff.2 (.inr (View.foot h)))))⟩
  unfold View
  exact ⟨⟨A5, c5, rfl, hl5, Kd.F_mono hF5 hn⟩, fun k hk => (away_new hp hb k hk).2⟩
theorem rpop0_sys {A : Option Addr} {n c : Nat} {m' : Int} (S : Aside0 (St 0 w W La)) (hs : Spot La (SysA w D0 g m L (.slice A n c) [] D) F) :
    Calls Try.prog 19 #[.agg #[.slice A n c, .int .i64 m']] W fun z W' => ∃ A' c' A5 c5, z = .returned (.tuple #[.agg #[.slice A' 0 c', .int .i64 m'], .agg #[.int .i64 0, .int .u8 0, .string ⟨#[]⟩, .slice A5 0 c5], .bool false]) ∧
      ∃ D', Aside0 (St 0 w W' (F (both (SysA w D0 g m L (.slice A' 0 c') [] D') (View (Kd.int .u8) 5 D' (.slice A5 0 c5) [])))) := by
  have hp := SysA.pair (pred_at S.out hs)
  obtain rfl : n = ([] : List S57).length := (Kd.V_reads' hp.view).1
  refine (budwoodref19_Queue_Pop.calls D A c [] m' _ _ _ _ _ _ _ W hp.view pop_f0).mono ?_
  rintro z W' ⟨v0, v5, rfl, hV, hV5, hb⟩
  obtain ⟨A', c', rfl, hl', hF'⟩ := Kd.V_bound hV
  obtain ⟨A5, c5, rfl, hl5, hF5⟩ := Kd.V_bound hV5
  have hp' := (pair_below hp hb).more (D' := New W W' D) (fun b hb => .inl hb) (away_new hp hb)
  have hn : ∀ k, (D k ∨ W.heap.size ≤ k) ∧ k < W'.heap.size → New W W' D k := fun k hk => hk.1.elim .inl (fun h => .inr ⟨h, hk.2⟩)
  have S1 := SysA.step (R' := []) (v' := .slice A' ([] : List S57).length c') (D' := New W W' D) S hs (below_turn g hb) ⟨hp'.ring, A', c', rfl, hl', Kd.F_mono hF' hn⟩ (fun b hb => hb.imp_right (fun h => h.1))
  refine ⟨A', c', A5, c5, rfl, New W W' D, ?_⟩
  obtain ⟨pre, post, e1, e2⟩ := hs.split
  rw [e2] at S1 ⊢
  have hm : SysA w D0 g m L (.slice A' ([] : List S57).length c') [] (New W W' D) ∈ pre ++ SysA w D0 g m L (.slice A' ([] : List S57).length c') [] (New W W' D) :: post := List.mem_append_right _ List.mem_cons_self
  refine ⟨S1.out.turn rfl rfl rfl (Nat.le_refl _) (fun _ _ _ => rfl) ⟨S1.out.holds _ hm, ?_⟩ (fun k hk => .inl (hk.elim id (fun h => SysA.foot_iff.2 (.inr (View.foot h)))))⟩
  unfold View
  exact ⟨⟨A5, c5, rfl, hl5, Kd.F_mono hF5 hn⟩, fun k hk => (away_new hp hb k hk).2⟩
/-- The document's Pop: the list stays. -/
theorem rpop_keep {x : S57} {A : Option Addr} {n c : Nat} {m' : Int} (S : Aside0 (St 0 w W La)) (hs : Spot La (SysA w D0 g m L (.slice A n c) (x :: R) D) F) (h8 : R.length < 8) :
    Calls Try.prog 19 #[.agg #[.slice A n c, .int .i64 m']] W fun z W' => ∃ A' c' A5 c5, z = .returned (.tuple #[.agg #[.slice A' R.length c', .int .i64 m'], .agg #[.int .i64 x.f0, .int .u8 x.f1.f0, .string x.f1.f1, .slice A5 x.f1.f2.length c5], .bool true]) ∧
      ∃ D', Aside0 (St 0 w W' (F (both (SysA w D0 g m L (.slice A n c) (x :: R) D') (View (Kd.int .u8) 5 D' (.slice A5 x.f1.f2.length c5) x.f1.f2)))) := by
  have hp := SysA.pair (pred_at S.out hs)
  obtain rfl : n = (x :: R).length := (Kd.V_reads' hp.view).1
  refine (budwoodref19_Queue_Pop.calls D A c (x :: R) m' _ _ _ _ _ _ _ W hp.view (pop_f h8)).mono ?_
  rintro z W' ⟨v0, v5, rfl, hV, hV5, hb⟩
  obtain ⟨A', c', rfl, hl', hF'⟩ := Kd.V_bound hV
  obtain ⟨A5, c5, rfl, hl5, hF5⟩ := Kd.V_bound hV5
  have hp' := (pair_below hp hb).more (D' := New W W' D) (fun b hb => .inl hb) (away_new hp hb)
  have hn : ∀ k, (D k ∨ W.heap.size ≤ k) ∧ k < W'.heap.size → New W W' D k := fun k hk => hk.1.elim .inl (fun h => .inr ⟨h, hk.2⟩)
  have S1 := SysA.step (R' := x :: R) (D' := New W W' D) S hs (below_turn g hb) hp' (fun b hb => hb.imp_right (fun h => h.1))
  refine ⟨A', c', A5, c5, rfl, New W W' D, ?_⟩
  obtain ⟨pre, post, e1, e2⟩ := hs.split
  rw [e2] at S1 ⊢
  have hm : SysA w D0 g m L (.slice A (x :: R).length c) (x :: R) (New W W' D) ∈ pre ++ SysA w D0 g m L (.slice A (x :: R).length c) (x :: R) (New W W' D) :: post := List.mem_append_right _ List.mem_cons_self
  refine ⟨S1.out.turn rfl rfl rfl (Nat.le_refl _) (fun _ _ _ => rfl) ⟨S1.out.holds _ hm, ?_⟩ (fun k hk => .inl (hk.elim id (fun h => SysA.foot_iff.2 (.inr (View.foot h)))))⟩
  unfold View
  exact ⟨⟨A5, c5, rfl, hl5, Kd.F_mono hF5 hn⟩, fun k hk => (away_new hp hb k hk).2⟩
theorem rpop0_keep {A : Option Addr} {n c : Nat} {m' : Int} (S : Aside0 (St 0 w W La)) (hs : Spot La (SysA w D0 g m L (.slice A n c) [] D) F) :
    Calls Try.prog 19 #[.agg #[.slice A n c, .int .i64 m']] W fun z W' => ∃ A' c' A5 c5, z = .returned (.tuple #[.agg #[.slice A' 0 c', .int .i64 m'], .agg #[.int .i64 0, .int .u8 0, .string ⟨#[]⟩, .slice A5 0 c5], .bool false]) ∧
      ∃ D', Aside0 (St 0 w W' (F (both (SysA w D0 g m L (.slice A n c) [] D') (View (Kd.int .u8) 5 D' (.slice A5 0 c5) [])))) := by
  have hp := SysA.pair (pred_at S.out hs)
  obtain rfl : n = ([] : List S57).length := (Kd.V_reads' hp.view).1
  refine (budwoodref19_Queue_Pop.calls D A c [] m' _ _ _ _ _ _ _ W hp.view pop_f0).mono ?_
  rintro z W' ⟨v0, v5, rfl, hV, hV5, hb⟩
  obtain ⟨A', c', rfl, hl', hF'⟩ := Kd.V_bound hV
  obtain ⟨A5, c5, rfl, hl5, hF5⟩ := Kd.V_bound hV5
  have hp' := (pair_below hp hb).more (D' := New W W' D) (fun b hb => .inl hb) (away_new hp hb)
  have hn : ∀ k, (D k ∨ W.heap.size ≤ k) ∧ k < W'.heap.size → New W W' D k := fun k hk => hk.1.elim .inl (fun h => .inr ⟨h, hk.2⟩)
  have S1 := SysA.step (R' := []) (D' := New W W' D) S hs (below_turn g hb) hp' (fun b hb => hb.imp_right (fun h => h.1))
  refine ⟨A', c', A5, c5, rfl, New W W' D, ?_⟩
  obtain ⟨pre, post, e1, e2⟩ := hs.split
  rw [e2] at S1 ⊢
  have hm : SysA w D0 g m L (.slice A ([] : List S57).length c) [] (New W W' D) ∈ pre ++ SysA w D0 g m L (.slice A ([] : List S57).length c) [] (New W W' D) :: post := List.mem_append_right _ List.mem_cons_self
  refine ⟨S1.out.turn rfl rfl rfl (Nat.le_refl _) (fun _ _ _ => rfl) ⟨S1.out.holds _ hm, ?_⟩ (fun k hk => .inl (hk.elim id (fun h => SysA.foot_iff.2 (.inr (View.foot h)))))⟩
  unfold View
  exact ⟨⟨A5, c5, rfl, hl5, Kd.F_mono hF5 hn⟩, fun k hk => (away_new hp hb k hk).2⟩
theorem len_sysn {n : Nat} (S : Aside0 (St 0 w W La)) (hs : Spot La (SysA w D0 g m L v R D) F) (hn : L.length = n) :
    Calls Try.prog 14 #[.pointer (some ⟨g, 0, none⟩)] W fun z W' => z = .returned (.int .i64 n) ∧ W' = W := by
  subst hn
  exact len_sys S hs
theorem lenb_sys {n : Nat} {b : Asn} (S : Aside0 (St 0 w W La)) (hs : Spot La (both (SysA w D0 g m L v R D) b) F) (hn : L.length = n) :
    Calls Try.prog 14 #[.pointer (some ⟨g, 0, none⟩)] W fun z W' => z = .returned (.int .i64 n) ∧ W' = W := by
  subst hn
  exact ring_len g m L D W (SysA.pair (pred_at S.out hs).1).ring
theorem cameb_sys {b : Asn} (S : Aside0 (St 0 w W La)) (hs : Spot La (both (SysA w D0 g m L v R D) b) F) :
    Calls Try.prog 13 #[.pointer (some ⟨g, 0, none⟩)] W fun z W' => z = .returned (.int .i64 m) ∧ W' = W :=
  ring_came g m L D W (SysA.pair (pred_at S.out hs).1).ring
/-- What stands beside it is let go. -/
theorem drop_both {a b : Asn} {w W : World} {La : List Asn} {F : Asn → List Asn} (S : Aside0 (St 0 w W La)) (hs : Spot La (both a b) F) : Aside0 (St 0 w W (F a)) :=
  ⟨swap_at S.out hs (pred_at S.out hs).1 (fun k hk => .inl hk)⟩
end
end Go.Proofs.Ytipcflkijcccdaa.Sys
namespace Go.Proofs.Ytipcflkijcccdaa.Sys
open Go.RowKit Go.Proofs.Ytipcflkijcccdaa.Sep Go.Proofs.YtipcflkijcccdaaW.PrintWords Go.Proofs.YtipcflkijcccdaaW.PrintLast Go.Proofs.YtipcflkijcccdaaW.PrintMore Go.Proofs.Ytipcflkijcccdaa.X Go.Proofs.Ytipcflkijcccdaa.Qu Go.Proofs.Ytipcflkijcccdaa.Ev Go.Proofs.Ytipcflkijcccdaa.PB
set_option linter.unusedVariables false
theorem same_item {w : World} {num kind : Int} {name : ByteArray} {A A' : Option Addr} {c c' : Nat} {o : List Int} (hC : Kd.C (Kd.int .u8) w A o.length o) (hc : o.length ≤ c) (hC' : Kd.C (Kd.int .u8) w A' o.length o) (hc' : o.length ≤ c') :
    Calls Try.prog 20 #[.agg #[.int .i64 num, .int .u8 kind, .string name, .slice A o.length c], .agg #[.int .i64 num, .int .u8 kind, .string name, .slice A' o.length c']] w fun e w' => e = .returned (.bool true) ∧ Below w.heap.size w w' :=
  budwoodref19_SameItem.calls num kind name A c o num kind name A' c' o true w hC hc hC' hc' (by unfold budwoodref19_SameItem.f budwoodref19_Same.f; simp)
theorem same_x {w : World} {x : S57} {A A' : Option Addr} {c c' : Nat} {D : Nat → Prop} (hX : (RowW A c (it x).obj).pred w) (hY : (View (Kd.int .u8) 5 D (.slice A' x.f1.f2.length c') x.f1.f2).pred w) :
    Calls Try.prog 20 #[.agg #[.int .i64 (it x).num, .int .u8 (it x).kind, .string (it x).name, .slice A (it x).obj.length c], .agg #[.int .i64 x.f0, .int .u8 x.f1.f0, .string x.f1.f1, .slice A' x.f1.f2.length c']] w fun e w' => e = .returned (.bool true) ∧ Below w.heap.size w w' :=
  same_item (num := x.f0) (kind := x.f1.f0) (name := x.f1.f1) (o := x.f1.f2) (RowW.reads hX) (RowW.cap hX) (Kd.V_reads' (View.v hY 0)).2.2 (Kd.V_reads' (View.v hY 0)).2.1
theorem same_0 {w : World} {A' : Option Addr} {c' : Nat} {D : Nat → Prop} (hY : (View (Kd.int .u8) 5 D (.slice A' 0 c') ([] : List Int)).pred w) :
    Calls Try.prog 20 #[.agg #[.int .i64 0, .int .u8 0, .string ⟨#[]⟩, .slice none 0 0], .agg #[.int .i64 0, .int .u8 0, .string ⟨#[]⟩, .slice A' 0 c']] w fun e w' => e = .returned (.bool true) ∧ Below w.heap.size w w' :=
  same_item (num := 0) (kind := 0) (name := ⟨#[]⟩) (o := []) (A := none) (c := 0) (Kd.C_nil _ _) (by simp) (Kd.V_reads' (View.v hY 0)).2.2 (by simp)
section
variable {w W : World} {g : Nat} {m : Int} {L : List It} {v : Value} {R : List S57} {D D0 : Nat → Prop} {La : List Asn} {F : Asn → List Asn}
theorem row_sys {A : Option Addr} {o : List Int} (S : Aside0 (St 0 w W La)) (hs : Spot La (SysA w D0 g m L v R D) F) (hr : (Row A o).pred w) (hg : ∀ k, (Row A o).foot k → k ≠ g) : (Row A o).pred W :=
  (Row A o).move (fun k hk => SysA.still (pred_at S.out hs) k ((Row A o).lt hr k hk) (hg k hk)) hr
theorem row_not_g {A : Option Addr} {c : Nat} {o : List Int} (S : Aside0 (St 0 w W La)) (ht : Two La (RowW A c o) (SysA w D0 g m L v R D)) (hs : Spot La (SysA w D0 g m L v R D) F) : ∀ k, (RowW A c o).foot k → k ≠ g :=
  fun k hk e => apart_at S.out ht k hk (SysA.foot_iff.2 (.inl (e ▸ SysA.gl (pred_at S.out hs))))
end
/-- What a call on both leaves and tells. -/
def Did (w : World) (g : Nat) (m' : Int) (R' : List S57) (D : Nat → Prop) (z : Ending) (w' : World) : Prop :=
  ∃ A' n' c', z = .returned (.tuple #[.agg #[.slice A' n' c', .int .i64 m'], .bool true]) ∧ n' = R'.length ∧ Done w g m' (R'.map it) (.slice A' n' c') R' D w'
theorem Done.len {w w' : World} {g n c : Nat} {m : Int} {L : List It} {A : Option Addr} {R : List S57} {D : Nat → Prop} (h : Done w g m L (.slice A n c) R D w') : n = R.length := by
  obtain ⟨_, D', _, h⟩ := h
  exact (Kd.V_reads' h.view).1
end Go.Proofs.Ytipcflkijcccdaa.Sys
