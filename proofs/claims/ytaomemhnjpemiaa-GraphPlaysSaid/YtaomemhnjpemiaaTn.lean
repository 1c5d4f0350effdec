/- Turn. -/
import Derived.Test.YtaomemhnjpemiaaZAd
namespace Go.Proofs.Ytaomemhnjpemiaa.Mp
open Go Go.Maps Go.RowKit Go.Proofs.Ytaomemhnjpemiaa.PB Go.Proofs.Ytaomemhnjpemiaa.Doc Go.Proofs.Ytaomemhnjpemiaa.Sep Go.Proofs.Ytaomemhnjpemiaa.Ev Go.Proofs.Ytaomemhnjpemiaa.Ty Go.Proofs.YtaomemhnjpemiaaW.PrintWords Go.Proofs.YtaomemhnjpemiaaW.PrintLast Go.Proofs.YtaomemhnjpemiaaW.PrintMore
set_option linter.unusedVariables false
set_option linter.unusedSimpArgs false

/-- would it go round? -/
def rounds_ (G : List S73) (s d : ByteArray) : Bool := decide (d = s) || (decide (d ∈ names G) && (decide (s ∈ names G) && decide (s ∈ reached G d)))
theorem bytes_beq (a b : ByteArray) : (a.toList == b.toList) = decide (a = b) := by
 by_cases e : a = b
 ·subst e; simp
 ·rw [decide_eq_false e]
  cases hq : a.toList == b.toList with
  | false => rfl
  | true => exact absurd (bytes_eq.1 (by simpa using hq)) e
set_option maxRecDepth 100000 in
set_option maxHeartbeats 8000000 in
theorem clo42_calls (g1 g2 g bm n : Nat) (f : ByteArray → Option Nat) (G : List S73) (s d : ByteArray) (w : World) (h : Gr w g bm n f G) (hd : d.size ≤ maxLen) (hs : s.size ≤ maxLen) (h1 : w.cell? ⟨g1, 0, none⟩ = some (.string s)) (h2 : w.cell? ⟨g2, 0, none⟩ = some (.pointer (some ⟨g, 0, none⟩))) :
  Calls Try.prog 42 #[.string d, .pointer (some ⟨g1, 0, none⟩), .pointer (some ⟨g2, 0, none⟩)] w fun z w' => z = .returned (.bool (rounds_ G s d)) ∧ Below w.heap.size w w' := by
 have HR := Aside0.mk (reaches_calls g bm n f G d s w h hd hs)
 have S := Aside0.mk (St.start w)
 have HV := Aside0.mk (show rounds_ G s d = (decide (d = s) || (decide (d ∈ names G) && (decide (s ∈ names G) && decide (s ∈ reached G d)))) from rfl)
 generalize rounds_ G s d = v at *
 generalize (decide (d ∈ names G) && (decide (s ∈ names G) && decide (s ∈ reached G d))) = u at *
 have hb := bytes_beq d s
 clear h hd hs
 by_cases e : d = s
 ·rw [decide_eq_true e] at hb HV
  clear e
  go_enter Try.func42, Try.ntmps42
  go_wp2_with (first | (go_at_call 16; (with_reducible refine HR.out.mono ?_); rintro z_ w_ ⟨rfl, hb_⟩; have S_ := Aside0.mk (S.out.keep hb_); clear hb_; clear S; have S := S_; clear S_) | go_in)
  go_ret
  refine ⟨?_, S.out.below⟩
  rw [HV.out]; rfl
 ·rw [decide_eq_false e] at hb HV
  clear e
  go_enter Try.func42, Try.ntmps42
  go_wp2_with (first | (go_at_call 16; (with_reducible refine HR.out.mono ?_); rintro z_ w_ ⟨rfl, hb_⟩; have S_ := Aside0.mk (S.out.keep hb_); clear hb_; clear S; have S := S_; clear S_) | go_in)
  go_ret
  refine ⟨?_, S.out.below⟩
  rw [HV.out]; rfl

set_option maxRecDepth 100000 in
set_option maxHeartbeats 8000000 in
theorem turn_no (g bm n : Nat) (f : ByteArray → Option Nat) (G : List S73) (s : ByteArray) (A : Option Addr) (c : Nat) (xs : List ByteArray) (w : World) (h : Gr w g bm n f G) (hfar : Far bm f) (hs : s.size ≤ maxLen) (hC : Kd.C Kd.string w A xs.length xs) (hsz : ∀ x ∈ xs, x.size ≤ maxLen) (hl : xs.length ≤ 1000000) (hin : s ∉ names G) :
  Calls Try.prog 17 #[.pointer (some ⟨g, 0, none⟩), .string s, .slice A xs.length c] w fun z w' => z = .returned (.int .i64 8) ∧ Below w.heap.size w w' := by
 have HG := Aside0.mk h
 have HC := Aside0.mk hC
 have HZ := Aside0.mk hsz
 have HS := Aside0.mk hs
 have HV := Aside0.mk (decide_eq_false hin)
 have S := Aside0.mk (St.start w)
 clear h hC hsz hs hin
 go_enter Try.func17, Try.ntmps17
 go_wp2_with (first | ((with_reducible refine gate_dst (N := 3) rfl ?_); refine ev_box1 S ?_ 3 rfl rfl rfl rfl ?_; (first | exact want0 rfl | exact want1 rfl rfl rfl rfl); intro g3 w3 S_; clear S; have S := S_; clear S_) | ((with_reducible refine gate_dst (N := 4) rfl ?_); refine ev_box1 S ?_ 4 rfl rfl rfl rfl ?_; (first | exact want0 rfl | exact want1 rfl rfl rfl rfl); intro g4 w4 S_; clear S; have S := S_; clear S_) | (refine ev_own1 S ?_ rfl o25 rfl (by repeat (first | exact Spot.here _ _ | apply Spot.there)) (by exact rfl) ?_; (first | exact want0 rfl | exact want1 rfl rfl rfl rfl)) | (refine ev_own1 S ?_ rfl o9 rfl (by repeat (first | exact Spot.here _ _ | apply Spot.there)) (by exact rfl) ?_; (first | exact want0 rfl | exact want1 rfl rfl rfl rfl)) | (go_at_call 15; have c_ := has2_calls (HG.out.below S.out.below) s HS.out; rw [HV.out] at c_; (with_reducible refine c_.mono ?_); clear c_; rintro z_ w_ ⟨rfl, rfl⟩) | go_in)
 go_ret
 exact ⟨rfl, S.out.below⟩

set_option maxRecDepth 100000 in
set_option maxHeartbeats 8000000 in
theorem turn_none (g bm n : Nat) (f : ByteArray → Option Nat) (G : List S73) (s : ByteArray) (A : Option Addr) (c : Nat) (xs : List ByteArray) (w : World) (h : Gr w g bm n f G) (hfar : Far bm f) (hs : s.size ≤ maxLen) (hC : Kd.C Kd.string w A xs.length xs) (hsz : ∀ x ∈ xs, x.size ≤ maxLen) (hl : xs.length ≤ 1000000) (hin : s ∈ names G) (hall : ¬ ∀ x ∈ xs, x ∈ names G) :
  Calls Try.prog 17 #[.pointer (some ⟨g, 0, none⟩), .string s, .slice A xs.length c] w fun z w' => z = .returned (.int .i64 8) ∧ Below w.heap.size w w' := by
 have HG := Aside0.mk h
 have HC := Aside0.mk hC
 have HZ := Aside0.mk hsz
 have HS := Aside0.mk hs
 have HV := Aside0.mk (decide_eq_true hin)
 have HW := Aside0.mk (lacks_yes hall)
 have S := Aside0.mk (St.start w)
 clear h hC hsz hs hin hall
 go_enter Try.func17, Try.ntmps17
 go_wp2_with (first | ((with_reducible refine gate_dst (N := 3) rfl ?_); refine ev_box1 S ?_ 3 rfl rfl rfl rfl ?_; (first | exact want0 rfl | exact want1 rfl rfl rfl rfl); intro g3 w3 S_; clear S; have S := S_; clear S_) | ((with_reducible refine gate_dst (N := 4) rfl ?_); refine ev_box1 S ?_ 4 rfl rfl rfl rfl ?_; (first | exact want0 rfl | exact want1 rfl rfl rfl rfl); intro g4 w4 S_; clear S; have S := S_; clear S_) | (refine ev_own1 S ?_ rfl o25 rfl (by repeat (first | exact Spot.here _ _ | apply Spot.there)) (by exact rfl) ?_; (first | exact want0 rfl | exact want1 rfl rfl rfl rfl)) | (refine ev_own1 S ?_ rfl o9 rfl (by repeat (first | exact Spot.here _ _ | apply Spot.there)) (by exact rfl) ?_; (first | exact want0 rfl | exact want1 rfl rfl rfl rfl)) | (go_at_call 15; have c_ := has2_calls (HG.out.below S.out.below) s HS.out; rw [HV.out] at c_; (with_reducible refine c_.mono ?_); clear c_; rintro z_ w_ ⟨rfl, rfl⟩) | (go_at_call 40; have c_ := lacks_calls g bm n f G A c xs _ (HG.out.below S.out.below) (Kd.C_below HC.out S.out.below) HZ.out; rw [HW.out] at c_; (with_reducible refine c_.mono ?_); clear c_; rintro z_ w_ ⟨rfl, hb_⟩; have S_ := Aside0.mk (S.out.keep hb_); clear hb_; clear S; have S := S_; clear S_) | go_in)
 go_ret
 exact ⟨rfl, S.out.below⟩

set_option maxRecDepth 100000 in
set_option maxHeartbeats 8000000 in
theorem turn_cycle (g bm n : Nat) (f : ByteArray → Option Nat) (G : List S73) (s : ByteArray) (A : Option Addr) (c : Nat) (xs : List ByteArray) (w : World) (h : Gr w g bm n f G) (hfar : Far bm f) (hs : s.size ≤ maxLen) (hC : Kd.C Kd.string w A xs.length xs) (hsz : ∀ x ∈ xs, x.size ≤ maxLen) (hl : xs.length ≤ 1000000) (hin : s ∈ names G) (hall : ∀ x ∈ xs, x ∈ names G) (hr : xs.any (rounds_ G s) = true) :
  Calls Try.prog 17 #[.pointer (some ⟨g, 0, none⟩), .string s, .slice A xs.length c] w fun z w' => z = .returned (.int .i64 24) ∧ Below w.heap.size w w' := by
 have HG := Aside0.mk h
 have HC := Aside0.mk hC
 have HZ := Aside0.mk hsz
 have HS := Aside0.mk hs
 have HV := Aside0.mk (decide_eq_true hin)
 have HW := Aside0.mk (lacks_no hall)
 have HX := Aside0.mk hr
 have S := Aside0.mk (St.start w)
 clear h hC hsz hs hin hall hr
 go_enter Try.func17, Try.ntmps17
 go_wp2_with (first | ((with_reducible refine gate_dst (N := 3) rfl ?_); refine ev_box1 S ?_ 3 rfl rfl rfl rfl ?_; (first | exact want0 rfl | exact want1 rfl rfl rfl rfl); intro g3 w3 S_; clear S; have S := S_; clear S_) | ((with_reducible refine gate_dst (N := 4) rfl ?_); refine ev_box1 S ?_ 4 rfl rfl rfl rfl ?_; (first | exact want0 rfl | exact want1 rfl rfl rfl rfl); intro g4 w4 S_; clear S; have S := S_; clear S_) | (refine ev_own1 S ?_ rfl o25 rfl (by repeat (first | exact Spot.here _ _ | apply Spot.there)) (by exact rfl) ?_; (first | exact want0 rfl | exact want1 rfl rfl rfl rfl)) | (refine ev_own1 S ?_ rfl o9 rfl (by repeat (first | exact Spot.here _ _ | apply Spot.there)) (by exact rfl) ?_; (first | exact want0 rfl | exact want1 rfl rfl rfl rfl)) | (go_at_call 15; have c_ := has2_calls (HG.out.below S.out.below) s HS.out; rw [HV.out] at c_; (with_reducible refine c_.mono ?_); clear c_; rintro z_ w_ ⟨rfl, rfl⟩) | (go_at_call 40; have c_ := lacks_calls g bm n f G A c xs _ (HG.out.below S.out.below) (Kd.C_below HC.out S.out.below) HZ.out; rw [HW.out] at c_; (with_reducible refine c_.mono ?_); clear c_; rintro z_ w_ ⟨rfl, hb_⟩; have S_ := Aside0.mk (S.out.keep hb_); clear hb_; clear S; have S := S_; clear S_) | (go_at_call 41; have c_ := contains42_calls g4 g3 (rounds_ G s) A c xs _ (Kd.C_below HC.out S.out.below) (fun x hx W' hb => clo42_calls g4 g3 g bm n f G s x W' ((HG.out.below S.out.below).below hb) (HZ.out x hx) HS.out ((hb.cell (World.block_lt_of_cell? _ _ ((own_cell (g := g4) S (by repeat (first | exact Spot.here _ _ | apply Spot.there)) 0).trans rfl))).trans ((own_cell (g := g4) S (by repeat (first | exact Spot.here _ _ | apply Spot.there)) 0).trans rfl)) ((hb.cell (World.block_lt_of_cell? _ _ ((own_cell (g := g3) S (by repeat (first | exact Spot.here _ _ | apply Spot.there)) 0).trans rfl))).trans ((own_cell (g := g3) S (by repeat (first | exact Spot.here _ _ | apply Spot.there)) 0).trans rfl))); rw [HX.out] at c_; (with_reducible refine c_.mono ?_); clear c_; rintro z_ w_ ⟨rfl, hb_⟩; have S_ := Aside0.mk (S.out.keep hb_); clear hb_; clear S; have S := S_; clear S_) | go_in)
 go_ret
 exact ⟨rfl, S.out.below⟩

set_option maxRecDepth 100000 in
set_option maxHeartbeats 8000000 in
theorem turn_ok (g bm n : Nat) (f : ByteArray → Option Nat) (G : List S73) (s : ByteArray) (A : Option Addr) (c : Nat) (xs : List ByteArray) (w : World) (h : Gr w g bm n f G) (hfar : Far bm f) (hs : s.size ≤ maxLen) (hCN : ∀ W', w.grownBy W' (some bm) → Kd.C Kd.string W' A xs.length xs) (hsz : ∀ x ∈ xs, x.size ≤ maxLen) (hl : xs.length ≤ 1000000) (hin : s ∈ names G) (hall : ∀ x ∈ xs, x ∈ names G) (hr : xs.any (rounds_ G s) = false) :
  Calls Try.prog 17 #[.pointer (some ⟨g, 0, none⟩), .string s, .slice A xs.length c] w fun z w' => z = .returned (.int .i64 0) ∧ ∃ b, Laid w w' bm n f s b xs.length xs := by
 have HG := Aside0.mk h
 have HCN := Aside0.mk hCN
 have HZ := Aside0.mk hsz
 have HS := Aside0.mk hs
 have HV := Aside0.mk (decide_eq_true hin)
 have HW := Aside0.mk (lacks_no hall)
 have HX := Aside0.mk hr
 have HFAR := Aside0.mk hfar
 have HCL := Aside0.mk h.cell
 have HNE := Aside0.mk h.ne
 have S := start_map h.map
 clear h hCN hsz hs hin hall hfar hr
 go_enter Try.func17, Try.ntmps17
 go_wp2_with (first | ((with_reducible refine gate_dst (N := 3) rfl ?_); refine ev_box1 S ?_ 3 rfl rfl rfl rfl ?_; (first | exact want0 rfl | exact want1 rfl rfl rfl rfl); intro g3 w3 S_; clear S; have S := S_; clear S_) | ((with_reducible refine gate_dst (N := 4) rfl ?_); refine ev_box1 S ?_ 4 rfl rfl rfl rfl ?_; (first | exact want0 rfl | exact want1 rfl rfl rfl rfl); intro g4 w4 S_; clear S; have S := S_; clear S_) | (refine ev_own1 S ?_ rfl o25 rfl (by repeat (first | exact Spot.here _ _ | apply Spot.there)) (by exact rfl) ?_; (first | exact want0 rfl | exact want1 rfl rfl rfl rfl)) | (refine ev_own1 S ?_ rfl o9 rfl (by repeat (first | exact Spot.here _ _ | apply Spot.there)) (by exact rfl) ?_; (first | exact want0 rfl | exact want1 rfl rfl rfl rfl)) | (go_at_call 15; have c_ := has2_calls (gr_now HG.out HFAR.out S (by repeat (first | exact Spot.here _ _ | apply Spot.there)) (by repeat (first | exact Spot.here _ _ | apply Spot.there))) s HS.out; rw [HV.out] at c_; (with_reducible refine c_.mono ?_); clear c_; rintro z_ w_ ⟨rfl, rfl⟩) | (go_at_call 40; have c_ := lacks_calls g bm n f G A c xs _ (gr_now HG.out HFAR.out S (by repeat (first | exact Spot.here _ _ | apply Spot.there)) (by repeat (first | exact Spot.here _ _ | apply Spot.there))) (HCN.out _ (grown_of S (by repeat (first | exact Spot.here _ _ | apply Spot.there)))) HZ.out; rw [HW.out] at c_; (with_reducible refine c_.mono ?_); clear c_; rintro z_ w_ ⟨rfl, hb_⟩; have S_ := Aside0.mk (S.out.keep hb_); clear hb_; clear S; have S := S_; clear S_) | (go_at_call 41; have c_ := contains42_calls g4 g3 (rounds_ G s) A c xs _ (HCN.out _ (grown_of S (by repeat (first | exact Spot.here _ _ | apply Spot.there)))) (fun x hx W' hb => clo42_calls g4 g3 g bm n f G s x W' ((gr_now HG.out HFAR.out S (by repeat (first | exact Spot.here _ _ | apply Spot.there)) (by repeat (first | exact Spot.here _ _ | apply Spot.there))).below hb) (HZ.out x hx) HS.out ((hb.cell (World.block_lt_of_cell? _ _ ((own_cell (g := g4) S (by repeat (first | exact Spot.here _ _ | apply Spot.there)) 0).trans rfl))).trans ((own_cell (g := g4) S (by repeat (first | exact Spot.here _ _ | apply Spot.there)) 0).trans rfl)) ((hb.cell (World.block_lt_of_cell? _ _ ((own_cell (g := g3) S (by repeat (first | exact Spot.here _ _ | apply Spot.there)) 0).trans rfl))).trans ((own_cell (g := g3) S (by repeat (first | exact Spot.here _ _ | apply Spot.there)) 0).trans rfl))); rw [HX.out] at c_; (with_reducible refine c_.mono ?_); clear c_; rintro z_ w_ ⟨rfl, hb_⟩; have S_ := Aside0.mk (S.out.keep hb_); clear hb_; clear S; have S := S_; clear S_) | go_in)
 have S2 := Aside0.mk S.out.drew
 clear S
 refine start_ (n := 8) (S := fun w' => w'.cell? ⟨g, 0, none⟩ = some (.map (some bm)) ∧ w'.cell? ⟨g3, 0, none⟩ = some (.pointer (some ⟨g, 0, none⟩)) ∧ w'.cell? ⟨g4, 0, none⟩ = some (.string s)) (ds := [7]) (bt 8 0) (by kernel_rfl) rfl rfl ⟨(still_cell S2 (by repeat (first | exact Spot.here _ _ | apply Spot.there)) HCL.out HNE.out), ((own_cell (g := g3) S2 (by repeat (first | exact Spot.here _ _ | apply Spot.there)) 0).trans rfl), ((own_cell (g := g4) S2 (by repeat (first | exact Spot.here _ _ | apply Spot.there)) 0).trans rfl)⟩ (fun hHeld => ?_)
 refine pur 5 29 (bt 8 32) ?_
 refine tak 0 24 (bt 8 33) hHeld ?_
 refine pur 1 25 (bt 8 35) ?_
 refine pur 2 26 (bt 8 39) ?_
 refine tak 3 27 (bt 8 47) hHeld ?_
 refine tak 4 28 (bt 8 63) hHeld ?_
 refine on1 6 30 (bt 8 127) (fun K hK => ?_)
 refine goes_ Try.func43 (by kernel_rfl) rfl #[.slice A xs.length c] (by rfl) rfl rfl (by simp only [List.map_toArray, List.map_cons, List.map_nil]; rfl) ?_
 with_reducible refine (of_calls A c xs _ (HCN.out _ (grown_of S2 (by repeat (first | exact Spot.here _ _ | apply Spot.there)))) HZ.out hl).mono ?_
 rintro z9 w3 ⟨b, rfl, hbn, hbs, hbb⟩
 have S3 := Aside0.mk (St.add S2.out hbb (SetB b xs.length xs) (SetB.mk hbs) (fun k hk => by rw [SetB.foot_iff.1 hk]; exact hbn))
 have HBN := Aside0.mk (Nat.le_trans S2.out.below.size hbn)
 clear hbs hbb hbn
 refine ⟨_, rfl, ?_⟩
 refine hK.out _ _ ⟨(still_cell S3 (by repeat (first | exact Spot.here _ _ | apply Spot.there)) HCL.out HNE.out), ((own_cell (g := g3) S3 (by repeat (first | exact Spot.here _ _ | apply Spot.there)) 0).trans rfl), ((own_cell (g := g4) S3 (by repeat (first | exact Spot.here _ _ | apply Spot.there)) 0).trans rfl)⟩ (fun hHeld => ?_)
 clear hK K
 refine nrm ?_
 refine last_ (i := 7) (N := none) (bt 8 255) rfl rfl (by kernel_rfl) (by decide) (fun K hK => ?_)
 refine st_map_put S3 (by rfl) rfl _ _ _ rfl bm n f rfl (by repeat (first | exact Spot.here _ _ | apply Spot.there)) (by have := HG.out.cnt; unfold maxLen; omega) s rfl b rfl HS.out ?_
 intro w5 S5
 refine hK.out _ _ ?_
 clear hK K
 refine done_ (by kernel_rfl) ?_

 clear S2 S3
 have S := S5
 clear S5
 go_wp2
 go_ret
 exact ⟨rfl, b, grown_of S (by repeat (first | exact Spot.here _ _ | apply Spot.there)), MapB.out (pred_at S.out (a := MapB bm (n + 1) (fun y => if y = s then some b else f y)) (by repeat (first | exact Spot.here _ _ | apply Spot.there))), HBN.out, SetB.out (pred_at S.out (a := SetB b xs.length xs) (by repeat (first | exact Spot.here _ _ | apply Spot.there)))⟩
end Go.Proofs.Ytaomemhnjpemiaa.Mp
