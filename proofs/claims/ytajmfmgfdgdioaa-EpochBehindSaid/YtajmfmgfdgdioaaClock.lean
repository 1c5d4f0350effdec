/- The clock's methods. -/
import Derived.Test.YtajmfmgfdgdioaaDel2
namespace Go.Proofs.Ytajmfmgfdgdioaa.Cl
open Go.Proofs.Ytajmfmgfdgdioaa.Pure
open Go.RowKit Go.Proofs.Ytajmfmgfdgdioaa.Sep Go.Proofs.YtajmfmgfdgdioaaW.PrintWords Go.Proofs.YtajmfmgfdgdioaaW.PrintLast Go.Proofs.YtajmfmgfdgdioaaW.PrintMore Go.Proofs.Ytajmfmgfdgdioaa.Ev Go.Proofs.Ytajmfmgfdgdioaa.Ty
open Go.Proofs.Ytajmfmgfdgdioaa.PC hiding z46 z59 z67
set_option linter.unusedVariables false
set_option linter.unusedSimpArgs false

/-- The clock at block g: its count, its waiting. -/
structure Clk (W : World) (g : Nat) (now : Int) (A : Option Addr) (c : Nat) (ws : List S46) : Prop where
  blk : (Bk g #[.int .u64 now, .slice A ws.length c] 62).pred W
  row : (Own k46 46 A c ws).pred W
section
variable {w W W' : World} {g : Nat} {now : Int} {A : Option Addr} {c : Nat} {ws : List S46} {B : Nat} {L : List Asn}
theorem Clk.ne (h : Clk W g now A c ws) : ¬ blkOf A g := cell_row_ne h.row h.blk (by decide)
theorem Clk.lt (h : Clk W g now A c ws) : g < W.heap.size := (Bk g #[.int .u64 now, .slice A ws.length c] 62).lt h.blk g Bk.at
theorem Clk.row_lt (h : Clk W g now A c ws) {k : Nat} (hk : blkOf A k) : k < W.heap.size := (Own k46 46 A c ws).lt h.row k (foot_blk.2 hk)
def KK (g : Nat) (A : Option Addr) : Nat → Prop := fun k => k = g ∨ blkOf A k
theorem Clk.move (h : Clk W g now A c ws) (hb : ∀ k, KK g A k → W'.heap[k]? = W.heap[k]?) : Clk W' g now A c ws :=
  ⟨(Bk g #[.int .u64 now, .slice A ws.length c] 62).move (fun k hk => hb k (.inl (Bk.foot hk))) h.blk, (Own k46 46 A c ws).move (fun k hk => hb k (.inr (foot_blk.1 hk))) h.row⟩
theorem Clk.below (h : Clk W g now A c ws) (hb : Below W.heap.size W W') : Clk W' g now A c ws := h.move (fun k hk => hb.block k (by rcases hk with rfl | hk; exact h.lt; exact h.row_lt hk))
theorem Clk.keep {B : Nat} {w : World} (h : Clk w g now A c ws) (hb : Below w.heap.size w W) : Clk W g now A c ws := h.below hb
theorem Clk.start (h : Clk w g now A c ws) : Aside0 (St 0 w w [Bk g #[.int .u64 now, .slice A ws.length c] 62, Own k46 46 A c ws, Still w (fun k => ¬ KK g A k)]) :=
  ⟨(((St.start0 w).cons (Still w (fun k => ¬ KK g A k)) (fun _ _ _ => rfl) (fun k _ => Nat.zero_le k) (fun b hb => by cases hb)).cons (Own k46 46 A c ws) h.row (fun k _ => Nat.zero_le k)
    (fun b hb k h1 h2 => by
      rcases List.mem_singleton.1 hb with rfl
      exact h2.1 (.inr (foot_blk.1 h1)))).cons (Bk g #[.int .u64 now, .slice A ws.length c] 62) h.blk (fun k _ => Nat.zero_le k)
    (fun b hb k h1 h2 => by
      obtain rfl := Bk.foot h1
      rcases List.mem_cons.1 hb with rfl | hb
      · exact h.ne (foot_blk.1 h2)
      · rcases List.mem_singleton.1 hb with rfl
        exact h2.1 (.inl rfl))⟩
theorem clk_of {F F2 : Asn → List Asn} (S : Aside0 (St B w W L)) (h1 : Spot L (Bk g #[.int .u64 now, .slice A ws.length c] 62) F) (h2 : Spot L (Own k46 46 A c ws) F2) : Clk W g now A c ws := ⟨pred_at S.out h1, pred_at S.out h2⟩
theorem Clk.c1 (h : Clk W g now A c ws) : W.cell? ⟨g, 1, none⟩ = some (.slice A ws.length c) := (cell_blk (Bk.heap h.blk) 1).trans rfl
theorem Clk.c0 (h : Clk W g now A c ws) : W.cell? ⟨g, 0, none⟩ = some (.int .u64 now) := (cell_blk (Bk.heap h.blk) 0).trans rfl
end
/-- A new row that a call handed back. -/
theorem new_row {α : Type} {d : Kd α} {e B : Nat} {w W W' : World} {L : List Asn} {v : Value} {xs : List α} (hE : d.E = []) (S : Aside0 (St B w W L)) (hR : Kd.R d e W' W.heap.size (fun _ => True) v xs) (hb : Below W.heap.size W W') : ∃ A c, v = .slice A xs.length c ∧ Aside0 (St B w W' (Own d e A c xs :: L)) := by
  obtain ⟨A, c, rfl, _⟩ := Kd.R_reads hR
  exact ⟨A, c, rfl, ⟨St.add S.out hb _ (Own.mk hE hR) (Own.new hR)⟩⟩

theorem now_calls (g : Nat) (now : Int) (A : Option Addr) (c : Nat) (ws : List S46) (w : World) (h : Clk w g now A c ws) :
    Calls Try.prog 18 #[.pointer (some ⟨g, 0, none⟩)] w fun z w' => z = .returned (.int .u64 now) ∧ Below w.heap.size w w' := by
  have S := Aside0.mk (St.start w)
  have H0 := Aside0.mk h.c0
  clear h
  go_enter Try.func18, Try.ntmps18
  go_wp2_with (first | (refine ev_own1 S ?_ rfl o23 rfl (by repeat (first | exact Spot.here _ _ | apply Spot.there)) (by exact rfl) ?_; (first | exact want0 rfl | exact want1 rfl rfl rfl rfl)) | (refine ev_load1 ?_ rfl o23 rfl (old_ S H0.out) ?_; (first | exact want0 rfl | exact want1 rfl rfl rfl rfl)))
  go_ret
  exact ⟨rfl, S.out.below⟩
theorem waiting_calls (g : Nat) (now : Int) (A : Option Addr) (c : Nat) (ws : List S46) (w : World) (h : Clk w g now A c ws) (hm : ws.length ≤ 1000000) :
    Calls Try.prog 17 #[.pointer (some ⟨g, 0, none⟩)] w fun z w' => ∃ A' c', z = .returned (.slice A' ws.length c') ∧ Kd.R k46 46 w' w.heap.size (fun _ => True) (.slice A' ws.length c') ws ∧ Below w.heap.size w w' := by
  have S := Aside0.mk (St.start w)
  have H1 := Aside0.mk h.c1
  have HC := Aside0.mk (Own.reads h.row)
  have HL := Aside0.mk (Own.cap h.row)
  clear h
  go_enter Try.func17, Try.ntmps17
  go_wp2_with (first | (refine ev_own1 S ?_ rfl o43 rfl (by repeat (first | exact Spot.here _ _ | apply Spot.there)) (by exact rfl) ?_; (first | exact want0 rfl | exact want1 rfl rfl rfl rfl)) | (refine ev_load1 ?_ rfl o43 rfl (old_ S H1.out) ?_; (first | exact want0 rfl | exact want1 rfl rfl rfl rfl)) | (go_at_call 29; have c_ := slices_Clone_W.calls A c ws ws _ (Kd.C_below HC.out S.out.below) HL.out (by unfold slices_Clone_W.f; rw [if_pos (by omega)]); (with_reducible refine c_.mono ?_); clear c_; rintro z_ w_ ⟨v0, rfl, hR, hb_⟩; obtain ⟨A5, c5, rfl, _⟩ := Kd.R_reads hR; have HR5 := Aside0.mk (Kd.R_lower hR (below_size S.out.below)); clear hR; have hb2_ := hb_; have S_ := Aside0.mk (S.out.keep hb2_); clear hb2_ hb_; clear S; have S := S_; clear S_))
  go_ret
  exact ⟨A5, c5, rfl, HR5.out, S.out.below⟩

set_option maxHeartbeats 4000000 in
theorem due_calls (g : Nat) (now : Int) (A : Option Addr) (c : Nat) (ws : List S46) (Ah : Option Addr) (ch : Nat) (hs : List S59) (w : World) (h : Clk w g now A c ws) (hm : ws.length ≤ 1000000) (hC : Kd.C k59 w Ah hs.length hs) (hc : hs.length ≤ ch) :
    Calls Try.prog 16 #[.pointer (some ⟨g, 0, none⟩), .slice Ah hs.length ch] w fun z w' => ∃ A' c', z = .returned (.slice A' ((ws.filter (fun x => pas hs x.f1)).map (·.f0)).length c') ∧ Kd.R (Kd.int .u16) 36 w' w.heap.size (fun _ => True) (.slice A' ((ws.filter (fun x => pas hs x.f1)).map (·.f0)).length c') ((ws.filter (fun x => pas hs x.f1)).map (·.f0)) ∧ Below w.heap.size w w' := by
  have S := Aside0.mk (St.start w)
  have HQ := Aside0.mk h
  have HC := Aside0.mk hC
  clear h hC
  go_enter Try.func16, Try.ntmps16
  go_wp2_with (first | ((with_reducible refine gate_dst (N := 3) rfl ?_); refine ev_box1 S ?_ 3 rfl rfl rfl rfl ?_; (first | exact want0 rfl | exact want1 rfl rfl rfl rfl); intro g3 w3 S_; clear S; have S := S_; clear S_) | (go_at_call 17; have c_ := waiting_calls g now A c ws _ (HQ.out.below S.out.below) hm; (with_reducible refine c_.mono ?_); clear c_; rintro z_ w_ ⟨A5, c5, rfl, hR, hb_⟩; have S_ := Aside0.mk (St.add S.out hb_ (Own k46 46 A5 c5 ws) (Own.mk rfl hR) (Own.new hR)); clear hR hb_; clear S; have S := S_; clear S_) | (go_at_call 28; have c_ := late_ev (A := A5) (c := c5) (xs := ws) (Ah := Ah) (ch := ch) (gh := g3) (hs := hs) S (by repeat (first | exact Spot.here _ _ | apply Spot.there)) (by repeat (first | exact Spot.here _ _ | apply Spot.there)) (fun W' T => Kd.C_below HC.out (below_turn S.out.below T S.out.leW (fun k hk => new_at S.out (a := Own k46 46 A5 c5 ws) (by repeat (first | exact Spot.here _ _ | apply Spot.there)) k (foot_blk.2 hk)))) hc; (with_reducible refine c_.mono ?_); clear c_; rintro z_ w_ ⟨rfl, S_, T_⟩; clear S; have S := S_; clear S_; clear T_) | (go_at_call 27; have c_ := epoch_owners.calls (ws.length + 1) A5 c5 (ws.filter (fun x => pas hs x.f1)) _ _ (Own.reads (pred_at S.out (a := Own k46 46 A5 c5 (ws.filter (fun x => pas hs x.f1))) (by repeat (first | exact Spot.here _ _ | apply Spot.there)))) (Own.cap (pred_at S.out (a := Own k46 46 A5 c5 (ws.filter (fun x => pas hs x.f1))) (by repeat (first | exact Spot.here _ _ | apply Spot.there)))) (owners_f _ (Nat.le_trans (List.length_filter_le _ _) hm) _ (Nat.lt_succ_of_le (List.length_filter_le _ _))); (with_reducible refine c_.mono ?_); clear c_; rintro z_ w_ ⟨v0, rfl, hR, hb_⟩; obtain ⟨A9, c9, rfl, _⟩ := Kd.R_reads hR; have HR9 := Aside0.mk (Kd.R_lower hR (below_size S.out.below)); clear hR; have hb2_ := hb_; have S_ := Aside0.mk (S.out.keep hb2_); clear hb2_ hb_; clear S; have S := S_; clear S_))
  go_ret
  exact ⟨A9, c9, by first | rfl | (simp; done), HR9.out, S.out.below⟩

theorem blk_own_ne {α : Type} {d : Kd α} {e : Nat} {B : Nat} {w W : World} {L : List Asn} (S : Aside0 (St B w W L)) {A : Option Addr} {c gh : Nat} {xs : List α} {cs : Array Value} {t : TypeId} {F F2 : Asn → List Asn} (h1 : Spot L (Own d e A c xs) F) (h2 : Spot L (Bk gh cs t) F2) (hne : t ≠ e) : ¬ blkOf A gh := cell_row_ne (pred_at S.out h1) (pred_at S.out h2) hne
set_option maxHeartbeats 4000000 in
theorem take_calls (g : Nat) (now : Int) (A : Option Addr) (c : Nat) (ws : List S46) (Ah : Option Addr) (ch : Nat) (hs : List S59) (w : World) (h : Clk w g now A c ws) (hm : ws.length ≤ 1000000) (hC : ∀ W', Turn w W' (KK g A) → Kd.C k59 W' Ah hs.length hs) (hc : hs.length ≤ ch) :
    Calls Try.prog 21 #[.pointer (some ⟨g, 0, none⟩), .slice Ah hs.length ch] w fun z w' => ∃ A' c', z = .returned (.slice A' ((ws.filter (fun x => pas hs x.f1)).map (·.f0)).length c') ∧ (Own (Kd.int .u16) 36 A' c' ((ws.filter (fun x => pas hs x.f1)).map (·.f0))).pred w' ∧ (∀ k, blkOf A' k → w.heap.size ≤ k) ∧ Clk w' g now A c (ws.filter (fun x => !pas hs x.f1)) ∧ Turn w w' (KK g A) := by
  have S := h.start
  have HC := Aside0.mk hC
  clear h hC
  go_enter Try.func21, Try.ntmps21
  go_wp2_with (first | ((with_reducible refine gate_dst (N := 3) rfl ?_); refine ev_box1 S ?_ 3 rfl rfl rfl rfl ?_; (first | exact want0 rfl | exact want1 rfl rfl rfl rfl); intro g3 w3 S_; clear S; have S := S_; clear S_) | (refine ev_own1 S ?_ rfl o22 rfl (by repeat (first | exact Spot.here _ _ | apply Spot.there)) (by exact rfl) ?_; (first | exact want0 rfl | exact want1 rfl rfl rfl rfl)) | (refine ev_own1 S ?_ rfl o43 rfl (by repeat (first | exact Spot.here _ _ | apply Spot.there)) (by exact rfl) ?_; (first | exact want0 rfl | exact want1 rfl rfl rfl rfl)) | (refine ev_put1 S ?_ rfl rfl s43 rfl rfl (by repeat (first | exact Spot.here _ _ | apply Spot.there)) ?_ ?_ ?_; (first | exact want0 rfl | exact want1 rfl rfl rfl rfl); rfl; rfl; intro w_ S_; simp only [putAt, List.set_cons_zero, List.set_cons_succ] at S_; clear S; have S := S_; clear S_) | (go_at_call 16; have c_ := due_calls g now A c ws Ah ch hs _ (clk_of S (by repeat (first | exact Spot.here _ _ | apply Spot.there)) (by repeat (first | exact Spot.here _ _ | apply Spot.there))) hm (HC.out _ (turn_of S (by repeat (first | exact Spot.here _ _ | apply Spot.there)))) hc; (with_reducible refine c_.mono ?_); clear c_; rintro z_ w_ ⟨A5, c5, rfl, hR, hb_⟩; have HN := Aside0.mk (fun k hk => Nat.le_trans S.out.below.size (Own.new hR k (foot_blk.2 hk))); have S_ := Aside0.mk (St.add S.out hb_ (Own (Kd.int .u16) 36 A5 c5 ((ws.filter (fun x => pas hs x.f1)).map (·.f0))) (Own.mk rfl hR) (Own.new hR)); clear hR hb_; clear S; have S := S_; clear S_) | (go_at_call 28; have c_ := done_ev (A := A) (c := c) (xs := ws) (Ah := Ah) (ch := ch) (gh := g3) (hs := hs) S (by repeat (first | exact Spot.here _ _ | apply Spot.there)) (by repeat (first | exact Spot.here _ _ | apply Spot.there)) (fun W' T => HC.out _ ((turn_of S (by repeat (first | exact Spot.here _ _ | apply Spot.there))).trans (Turn.mono (K := blkOf A) T (fun k _ hk => .inr hk)))) hc; (with_reducible refine c_.mono ?_); clear c_; rintro z_ w_ ⟨rfl, S_, T_⟩; clear S; have S := S_; clear S_; clear T_))
  go_ret
  exact ⟨A5, c5, by first | rfl | (simp; done), pred_at S.out (by repeat (first | exact Spot.here _ _ | apply Spot.there)), HN.out, clk_of S (by repeat (first | exact Spot.here _ _ | apply Spot.there)) (by repeat (first | exact Spot.here _ _ | apply Spot.there)), turn_of S (by repeat (first | exact Spot.here _ _ | apply Spot.there))⟩
theorem pas_nil (e : Int) : pas [] e = true := rfl
theorem clear_calls (g : Nat) (now : Int) (A : Option Addr) (c : Nat) (ws : List S46) (w : World) (h : Clk w g now A c ws) (hm : ws.length ≤ 1000000) :
    Calls Try.prog 22 #[.pointer (some ⟨g, 0, none⟩)] w fun z w' => ∃ A' c', z = .returned (.slice A' (ws.map (·.f0)).length c') ∧ (Own (Kd.int .u16) 36 A' c' (ws.map (·.f0))).pred w' ∧ (∀ k, blkOf A' k → w.heap.size ≤ k) ∧ Clk w' g now A c [] ∧ Turn w w' (KK g A) := by
  have HT := Aside0.mk (take_calls g now A c ws none 0 [] w h hm (fun W' _ => Kd.C_nil _ _) (Nat.le_refl _))
  simp only [pas_nil, Bool.not_true, List.length_nil] at HT
  have e1 : ws.filter (fun _ => true) = ws := List.filter_eq_self.2 (fun _ _ => rfl)
  have e2 : ws.filter (fun _ => false) = [] := List.filter_eq_nil_iff.2 (fun _ _ => by simp)
  rw [e1, e2] at HT
  clear h e1 e2
  go_enter Try.func22, Try.ntmps22
  go_wp2_with (first | (go_at_call 21; have c_ := HT.out; (with_reducible refine c_.mono ?_); clear c_; rintro z_ w_ ⟨A5, c5, rfl, h1, h2, h3, h4⟩; have HO := Aside0.mk h1; have HN := Aside0.mk h2; have HK := Aside0.mk h3; have HTT := Aside0.mk h4; clear h1 h2 h3 h4))
  go_ret
  exact ⟨A5, c5, by first | rfl | (simp; done), HO.out, HN.out, HK.out, HTT.out⟩
theorem new_calls (w : World) : Calls Try.prog 13 #[] w fun z w' => ∃ g, z = .returned (.pointer (some ⟨g, 0, none⟩)) ∧ w.heap.size ≤ g ∧ Clk w' g 0 none 0 [] ∧ Below w.heap.size w w' := by
  have S := Aside0.mk (St.start w)
  go_enter Try.func13, Try.ntmps13
  go_wp2_with (first | ((with_reducible refine gate_dst (N := 2) rfl ?_); refine ev_boxs S ?_ 2 rfl rfl rfl ?_; (first | exact want0 rfl | exact want1 rfl rfl rfl rfl); intro g2 w2 S_; clear S; have S := S_; clear S_))
  go_ret
  exact ⟨g2, rfl, new_at S.out (by repeat (first | exact Spot.here _ _ | apply Spot.there)) g2 Bk.at, ⟨pred_at S.out (by repeat (first | exact Spot.here _ _ | apply Spot.there)), Own.nil _ _ _⟩, S.out.below⟩
end Go.Proofs.Ytajmfmgfdgdioaa.Cl
