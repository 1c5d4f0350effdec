/- The clock as one assertion, its methods upon it; what every right program lets wait. -/
import Derived.Test.YtajmfmgfdgdioaaRetire
namespace Go.Proofs.Ytajmfmgfdgdioaa.Cl
open Go.Proofs.Ytajmfmgfdgdioaa.Pure
open Go.RowKit Go.Proofs.Ytajmfmgfdgdioaa.Sep Go.Proofs.YtajmfmgfdgdioaaW.PrintWords Go.Proofs.YtajmfmgfdgdioaaW.PrintLast Go.Proofs.YtajmfmgfdgdioaaW.PrintMore Go.Proofs.Ytajmfmgfdgdioaa.Ev Go.Proofs.Ytajmfmgfdgdioaa.Ty
open Go.Proofs.Ytajmfmgfdgdioaa.PC hiding z46 z59 z67
set_option linter.unusedVariables false
set_option linter.unusedSimpArgs false

def ClkA (g : Nat) (now : Int) (A : Option Addr) (c : Nat) (ws : List S46) : Asn where
  foot k := KK g A k
  pred W := Clk W g now A c ws
  move h hp := hp.move h
  lt {W} hp k hk := by
    rcases hk with rfl | hk
    · exact hp.lt
    · exact hp.row_lt hk
section
variable {B : Nat} {w W W' : World} {g : Nat} {now now' : Int} {A A' : Option Addr} {c c' : Nat} {ws ws' : List S46} {L : List Asn} {F : Asn → List Asn}
theorem ClkA.foot_iff {k : Nat} : (ClkA g now A c ws).foot k ↔ KK g A k := Iff.rfl
theorem ClkA.clk (h : (ClkA g now A c ws).pred W) : Clk W g now A c ws := h
theorem ClkA.mk (h : Clk W g now A c ws) : (ClkA g now A c ws).pred W := h
attribute [irreducible] ClkA
theorem clk_at (S : Aside0 (St B w W L)) (hs : Spot L (ClkA g now A c ws) F) : Clk W g now A c ws := ClkA.clk (pred_at S.out hs)
theorem clk_step (S : Aside0 (St B w W L)) (hs : Spot L (ClkA g now A c ws) F) (T : Turn W W' (KK g A)) (h : Clk W' g now' A' c' ws') (hA : ∀ k, blkOf A' k → blkOf A k ∨ W.heap.size ≤ k) : Aside0 (St B w W' (F (ClkA g now' A' c' ws'))) :=
  ⟨turn_at S.out hs T.os T.tape T.output T.size (fun k hk hn => T.block k hk (fun e => hn (ClkA.foot_iff.2 e))) (ClkA.mk h) (fun k hk => by
    rcases ClkA.foot_iff.1 hk with h | h
    · exact .inl (ClkA.foot_iff.2 (.inl h))
    · exact (hA k h).imp_left (fun h => ClkA.foot_iff.2 (.inr h)))⟩
theorem clk_step2 {a : Asn} (S : Aside0 (St B w W L)) (hs : Spot L (ClkA g now A c ws) F) (T : Turn W W' (KK g A)) (h : Clk W' g now' A c' ws') (ha : a.pred W') (hf : ∀ k, a.foot k → W.heap.size ≤ k) : Aside0 (St B w W' (a :: F (ClkA g now' A c' ws'))) := by
  have h1 := (clk_step S hs T h (fun k hk => .inl hk)).out
  obtain ⟨pre, post, e1, e2⟩ := hs.split
  refine ⟨h1.cons a ha (fun k hk => Nat.le_trans S.out.leW (hf k hk)) (fun b hb k hk1 hk2 => ?_)⟩
  have h3 := hf k hk1
  rw [e2] at hb
  have h4 : ∀ b, b ∈ L → b.foot k → False := fun b hb hk => by
    have := b.lt (S.out.holds b hb) k hk; omega
  rcases List.mem_append.1 hb with hb | hb
  · exact h4 b (by rw [e1]; exact List.mem_append.2 (.inl hb)) hk2
  · rcases List.mem_cons.1 hb with rfl | hb
    · exact h4 _ hs.mem (ClkA.foot_iff.2 (ClkA.foot_iff.1 hk2))
    · exact h4 b (by rw [e1]; exact List.mem_append.2 (.inr (List.mem_cons.2 (.inr hb)))) hk2
theorem new_ev (S : Aside0 (St B w W L)) : Calls Try.prog 13 #[] W fun z W' => ∃ g, z = .returned (.pointer (some ⟨g, 0, none⟩)) ∧ Aside0 (St B w W' (ClkA g 0 none 0 [] :: L)) := by
  refine (new_calls W).mono ?_
  rintro z W' ⟨g, rfl, h1, h2, h3⟩
  exact ⟨g, rfl, ⟨St.add S.out h3 _ (ClkA.mk h2) (fun k hk => by
    rcases ClkA.foot_iff.1 hk with rfl | h
    · exact h1
    · cases h)⟩⟩
theorem retire_ev (S : Aside0 (St B w W L)) (hs : Spot L (ClkA g now A c ws) F) (o : Int) (hm : ws.length ≤ 1000000) (h0 : 0 ≤ now) (h1 : now < 1099511627776) :
    Calls Try.prog 20 #[.pointer (some ⟨g, 0, none⟩), .int .u16 o] W fun z W' => ∃ A' c', z = .returned (.tuple #[.int .u64 (now + 1), .int .i64 0]) ∧ Aside0 (St B w W' (F (ClkA g (now + 1) A' c' (ws ++ [⟨o, now + 1⟩])))) := by
  refine (retire_calls g now A c ws o W (clk_at S hs) hm h0 h1).mono ?_
  rintro z W' ⟨A', c', rfl, h2, h3, T⟩
  exact ⟨A', c', rfl, clk_step S hs T h2 h3⟩
theorem now_ev (S : Aside0 (St B w W L)) (hs : Spot L (ClkA g now A c ws) F) : Calls Try.prog 18 #[.pointer (some ⟨g, 0, none⟩)] W fun z W' => z = .returned (.int .u64 now) ∧ Aside0 (St B w W' L) := by
  refine (now_calls g now A c ws W (clk_at S hs)).mono ?_
  rintro z W' ⟨rfl, hb⟩
  exact ⟨rfl, ⟨S.out.keep hb⟩⟩
theorem waiting_ev (S : Aside0 (St B w W L)) (hs : Spot L (ClkA g now A c ws) F) (hm : ws.length ≤ 1000000) : Calls Try.prog 17 #[.pointer (some ⟨g, 0, none⟩)] W fun z W' => ∃ A' c', z = .returned (.slice A' ws.length c') ∧ Aside0 (St B w W' (Own k46 46 A' c' ws :: L)) := by
  refine (waiting_calls g now A c ws W (clk_at S hs) hm).mono ?_
  rintro z W' ⟨A', c', rfl, hR, hb⟩
  exact ⟨A', c', rfl, ⟨St.add S.out hb _ (Own.mk rfl hR) (Own.new hR)⟩⟩
variable {Ah : Option Addr} {ch : Nat} {hs : List S59}
theorem due_ev (S : Aside0 (St B w W L)) (hsp : Spot L (ClkA g now A c ws) F) (hm : ws.length ≤ 1000000) (hC : Kd.C k59 W Ah hs.length hs) (hc : hs.length ≤ ch) :
    Calls Try.prog 16 #[.pointer (some ⟨g, 0, none⟩), .slice Ah hs.length ch] W fun z W' => ∃ A' c', z = .returned (.slice A' ((ws.filter (fun x => pas hs x.f1)).map (·.f0)).length c') ∧ Aside0 (St B w W' (Own (Kd.int .u16) 36 A' c' ((ws.filter (fun x => pas hs x.f1)).map (·.f0)) :: L)) := by
  refine (due_calls g now A c ws Ah ch hs W (clk_at S hsp) hm hC hc).mono ?_
  rintro z W' ⟨A', c', rfl, hR, hb⟩
  exact ⟨A', c', rfl, ⟨St.add S.out hb _ (Own.mk rfl hR) (Own.new hR)⟩⟩
theorem take_ev (S : Aside0 (St B w W L)) (hsp : Spot L (ClkA g now A c ws) F) (hm : ws.length ≤ 1000000) (hC : ∀ W', Turn W W' (KK g A) → Kd.C k59 W' Ah hs.length hs) (hc : hs.length ≤ ch) :
    Calls Try.prog 21 #[.pointer (some ⟨g, 0, none⟩), .slice Ah hs.length ch] W fun z W' => ∃ A' c', z = .returned (.slice A' ((ws.filter (fun x => pas hs x.f1)).map (·.f0)).length c') ∧ Aside0 (St B w W' (Own (Kd.int .u16) 36 A' c' ((ws.filter (fun x => pas hs x.f1)).map (·.f0)) :: F (ClkA g now A c (ws.filter (fun x => !pas hs x.f1))))) := by
  refine (take_calls g now A c ws Ah ch hs W (clk_at S hsp) hm hC hc).mono ?_
  rintro z W' ⟨A', c', rfl, h1, h2, h3, T⟩
  exact ⟨A', c', rfl, clk_step2 S hsp T h3 h1 (fun k hk => h2 k (foot_blk.1 hk))⟩
theorem clear_ev (S : Aside0 (St B w W L)) (hsp : Spot L (ClkA g now A c ws) F) (hm : ws.length ≤ 1000000) :
    Calls Try.prog 22 #[.pointer (some ⟨g, 0, none⟩)] W fun z W' => ∃ A' c', z = .returned (.slice A' (ws.map (·.f0)).length c') ∧ Aside0 (St B w W' (Own (Kd.int .u16) 36 A' c' (ws.map (·.f0)) :: F (ClkA g now A c []))) := by
  refine (clear_calls g now A c ws W (clk_at S hsp) hm).mono ?_
  rintro z W' ⟨A', c', rfl, h1, h2, h3, T⟩
  exact ⟨A', c', rfl, clk_step2 S hsp T h3 h1 (fun k hk => h2 k (foot_blk.1 hk))⟩
theorem harts_old (S : Aside0 (St w.heap.size w W L)) (hsp : Spot L (ClkA g now A c ws) F) (hC : Kd.C k59 w Ah hs.length hs) : ∀ W', Turn W W' (KK g A) → Kd.C k59 W' Ah hs.length hs := fun W' T =>
  Kd.C_below hC (below_turn S.out.below T S.out.leW (fun k hk => new_at S.out hsp k (ClkA.foot_iff.2 hk)))
end
section
variable {P : Program} {ops : Array Oper} {rest : List Oper} {o : Oper} {a : Act} {Q : Exit → Act → World → Prop} {B : Nat} {w W : World} {L : List Asn} {F : Asn → List Asn}
/-- A literal row, as a block. -/
theorem ev_litB {cs : Array Value} {t : TypeId} {n : Nat} (S : Aside0 (St B w W L)) (hw : Region.wanted o (yielded ops a.tmps) = true) (N : Tmp) (hN : o.dst = some N)
    (hrun : (execOp a.eval o).run P W = .ok (.value (.slice (some ⟨W.heap.size, 0, none⟩) n n)) (W.alloc (.cells cs t (0, 0))))
    (h : ∀ g w1, Aside0 (St B w w1 (Bk g cs t :: L)) → wpList P ops Q rest (a.put (some N) (.slice (some ⟨g, 0, none⟩) n n)) w1) : wpList P ops Q (o :: rest) a W := by
  refine wpList_step fun K hK => ?_
  rw [if_pos hw]
  unfold Oper.wp
  simp only [hrun]
  refine hK _ _ ?_
  rw [hN]
  exact h _ _ ⟨St.newBk S.out cs t⟩
theorem C_one {α : Type} {d : Kd α} {g : Nat} {x : α} {cs : List Value} {t : TypeId} {W : World} (h : (Bk g cs.toArray t).pred W) (hK : d.K W x cs) : Kd.C d W (some ⟨g, 0, none⟩) 1 [x] := by
  refine ⟨rfl, by omega, fun _ => ⟨_, rfl, fun j p hj => ?_⟩⟩
  rcases j with _ | j
  · obtain rfl := Option.some.inj hj
    refine ⟨cs, d.K_len hK, hK, fun i u hi => ?_⟩
    have e : (⟨g, 0, none⟩ : Addr).add (0 * d.sz + i) = ⟨g, i, none⟩ := by unfold Addr.add; simp; omega
    rw [e]
    exact (cell_blk (Bk.heap h) i).trans (by simpa using hi)
  · simp at hj
end

theorem passed_nil (w : World) : Calls Try.prog 10 #[.slice none 0 0, .int .u64 9] w fun e w' => e = .returned (.bool true) ∧ Below w.heap.size w w' :=
  epoch_Passed.calls 2 none 0 [] 9 true w (Kd.C_nil _ _) (Nat.le_refl _) (passed_f [] (by simp) 2 (by simp) 9)

theorem due_h0 {B : Nat} {w W : World} {L : List Asn} {F F2 : Asn → List Asn} {g gb : Nat} {A : Option Addr} {c : Nat} (S : Aside0 (St B w W L)) (hs : Spot L (ClkA g 1 A c [⟨7, 1⟩]) F) (hb : Spot L (Bk gb #[.int .u32 0, .int .u32 0, .int .u32 0, .int .u32 0, .int .u32 0, .int .u32 0, .int .u32 0, .int .u32 0, .int .u32 0, .slice none 0 0, .int .u8 0, .int .u64 0, .int .u32 0] 59) F2) :
    Calls Try.prog 16 #[.pointer (some ⟨g, 0, none⟩), .slice (some ⟨gb, 0, none⟩) 1 1] W fun z W' => ∃ A' c', z = .returned (.slice A' ([] : List Int).length c') ∧ Aside0 (St B w W' (Own (Kd.int .u16) 36 A' c' [] :: L)) := by
  have c_ := due_ev (ws := [⟨7, 1⟩]) (ch := 1) (hs := [⟨0, ⟨0, 0, 0, 0, 0, 0, 0, 0⟩, [], 0, 0, 0⟩]) S hs (by simp) (C_one (d := k59) (g := gb) (x := ⟨0, ⟨0, 0, 0, 0, 0, 0, 0, 0⟩, [], 0, 0, 0⟩) (cs := [.int .u32 0, .int .u32 0, .int .u32 0, .int .u32 0, .int .u32 0, .int .u32 0, .int .u32 0, .int .u32 0, .int .u32 0, .slice none 0 0, .int .u8 0, .int .u64 0, .int .u32 0]) (t := 59) (pred_at S.out hb) (k59_mk _ _ (Nat.zero_le _) (Kd.C_nil _ _))) (Nat.le_refl _)
  have e : (([⟨7, 1⟩] : List S46).filter (fun x => pas [(⟨0, ⟨0, 0, 0, 0, 0, 0, 0, 0⟩, [], 0, 0, 0⟩ : S59)] x.f1)).map (·.f0) = ([] : List Int) := by simp [pas]
  rw [e] at c_
  exact c_

theorem due_h1 {B : Nat} {w W : World} {L : List Asn} {F F2 : Asn → List Asn} {g gb : Nat} {A : Option Addr} {c : Nat} (S : Aside0 (St B w W L)) (hs : Spot L (ClkA g 1 A c [⟨7, 1⟩]) F) (hb : Spot L (Bk gb #[.int .u32 0, .int .u32 0, .int .u32 0, .int .u32 0, .int .u32 0, .int .u32 0, .int .u32 0, .int .u32 0, .int .u32 0, .slice none 0 0, .int .u8 0, .int .u64 1, .int .u32 0] 59) F2) :
    Calls Try.prog 16 #[.pointer (some ⟨g, 0, none⟩), .slice (some ⟨gb, 0, none⟩) 1 1] W fun z W' => ∃ A' c', z = .returned (.slice A' ([7] : List Int).length c') ∧ Aside0 (St B w W' (Own (Kd.int .u16) 36 A' c' [7] :: L)) := by
  have c_ := due_ev (ws := [⟨7, 1⟩]) (ch := 1) (hs := [⟨0, ⟨0, 0, 0, 0, 0, 0, 0, 0⟩, [], 0, 1, 0⟩]) S hs (by simp) (C_one (d := k59) (g := gb) (x := ⟨0, ⟨0, 0, 0, 0, 0, 0, 0, 0⟩, [], 0, 1, 0⟩) (cs := [.int .u32 0, .int .u32 0, .int .u32 0, .int .u32 0, .int .u32 0, .int .u32 0, .int .u32 0, .int .u32 0, .int .u32 0, .slice none 0 0, .int .u8 0, .int .u64 1, .int .u32 0]) (t := 59) (pred_at S.out hb) (k59_mk _ _ (Nat.zero_le _) (Kd.C_nil _ _))) (Nat.le_refl _)
  have e : (([⟨7, 1⟩] : List S46).filter (fun x => pas [(⟨0, ⟨0, 0, 0, 0, 0, 0, 0, 0⟩, [], 0, 1, 0⟩ : S59)] x.f1)).map (·.f0) = ([7] : List Int) := by simp [pas]
  rw [e] at c_
  exact c_

set_option maxRecDepth 100000 in
set_option maxHeartbeats 8000000 in
theorem awake_calls (w : World) : Calls Try.prog 12 #[] w fun z w' => z = .returned (.bool true) ∧ Below w.heap.size w w' := by
  have S := Aside0.mk (St.start w)
  go_enter Try.func12, Try.ntmps12
  go_wp2_with (first | ((with_reducible refine gate_dst (N := 23) rfl ?_); refine ev_litB (cs := #[.int .u32 0, .int .u32 0, .int .u32 0, .int .u32 0, .int .u32 0, .int .u32 0, .int .u32 0, .int .u32 0, .int .u32 0, .slice none 0 0, .int .u8 0, .int .u64 0, .int .u32 0]) (t := 59) (n := 1) S ?_ 23 rfl (by first | (go_simp; done) | (go_simp; rfl)) ?_; (first | exact want0 rfl | exact want1 rfl rfl rfl rfl); intro g23 w23 S_; clear S; have S := S_; clear S_) | ((with_reducible refine gate_dst (N := 31) rfl ?_); refine ev_litB (cs := #[.int .u32 0, .int .u32 0, .int .u32 0, .int .u32 0, .int .u32 0, .int .u32 0, .int .u32 0, .int .u32 0, .int .u32 0, .slice none 0 0, .int .u8 0, .int .u64 1, .int .u32 0]) (t := 59) (n := 1) S ?_ 31 rfl (by first | (go_simp; done) | (go_simp; rfl)) ?_; (first | exact want0 rfl | exact want1 rfl rfl rfl rfl); intro g31 w31 S_; clear S; have S := S_; clear S_) | ((with_reducible refine gate_dst (N := 33) rfl ?_); refine ev_litB (cs := #[.int .u16 7]) (t := 36) (n := 1) S ?_ 33 rfl (by first | (go_simp; done) | (go_simp; rfl)) ?_; (first | exact want0 rfl | exact want1 rfl rfl rfl rfl); intro g33 w33 S_; clear S; have S := S_; clear S_) | (go_at_call 13; have c_ := new_ev S; (with_reducible refine c_.mono ?_); clear c_; rintro z_ w_ ⟨g, rfl, S_⟩; clear S; have S := S_; clear S_) | (go_at_call 20; have c_ := retire_ev (A := none) (c := 0) (ws := []) S (by repeat (first | exact Spot.here _ _ | apply Spot.there)) 7 (by simp) (by omega) (by omega); simp only [List.nil_append, Int.zero_add] at c_; (with_reducible refine c_.mono ?_); clear c_; rintro z_ w_ ⟨A2, c2, rfl, S_⟩; clear S; have S := S_; clear S_) | (go_at_call 16; have c_ := due_h0 (gb := g23) S (by repeat (first | exact Spot.here _ _ | apply Spot.there)) (by repeat (first | exact Spot.here _ _ | apply Spot.there)); simp only [List.length_nil, List.length_cons, Nat.zero_add, Nat.reduceAdd] at c_; (with_reducible refine c_.mono ?_); clear c_; rintro z_ w_ ⟨A3, c3, rfl, S_⟩; clear S; have S := S_; clear S_) | (go_at_call 16; have c_ := due_h1 (gb := g31) S (by repeat (first | exact Spot.here _ _ | apply Spot.there)) (by repeat (first | exact Spot.here _ _ | apply Spot.there)); simp only [List.length_nil, List.length_cons, Nat.zero_add, Nat.reduceAdd] at c_; (with_reducible refine c_.mono ?_); clear c_; rintro z_ w_ ⟨A4, c4, rfl, S_⟩; clear S; have S := S_; clear S_) | (go_at_call 23; have c_ := budwoodlaw17_sameOwners.calls 3 A4 c4 [7] (some ⟨g33, 0, none⟩) 1 [7] true _ (Own.reads (pred_at S.out (a := Own (Kd.int .u16) 36 A4 c4 [7]) (by repeat (first | exact Spot.here _ _ | apply Spot.there)))) (Own.cap (pred_at S.out (a := Own (Kd.int .u16) 36 A4 c4 [7]) (by repeat (first | exact Spot.here _ _ | apply Spot.there)))) (C_one (d := Kd.int .u16) (g := g33) (x := 7) (cs := [.int .u16 7]) (t := 36) (pred_at S.out (by repeat (first | exact Spot.here _ _ | apply Spot.there))) rfl) (Nat.le_refl _) (same_f [7] (by simp) 3 (by simp)); simp only [List.length_cons, List.length_nil, Nat.zero_add, Nat.reduceAdd] at c_; (with_reducible refine c_.mono ?_); clear c_; rintro z_ w_ ⟨rfl, ⟨m_, rfl⟩⟩; have S_ := Aside0.mk (S.out.drewN m_); clear S; have S := S_; clear S_) | (go_at_call 10; (with_reducible refine (passed_nil _).mono ?_); rintro z_ w_ ⟨rfl, hb_⟩; have hb2_ := hb_; have S_ := Aside0.mk (S.out.keep hb2_); clear hb2_ hb_; clear S; have S := S_; clear S_))
  go_ret
  exact ⟨rfl, S.out.below⟩
end Go.Proofs.Ytajmfmgfdgdioaa.Cl
