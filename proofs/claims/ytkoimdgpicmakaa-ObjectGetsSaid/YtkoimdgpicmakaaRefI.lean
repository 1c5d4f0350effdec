/- The document's Get, in one sentence. -/
import Derived.Test.YtkoimdgpicmakaaRefG
namespace Go.Proofs.Ytkoimdgpicmakaa.Ob
open Go.Proofs.Ytkoimdgpicmakaa.Reader Go.Proofs.Ytkoimdgpicmakaa.RefR Go.Proofs.Ytkoimdgpicmakaa.Inv Go.Proofs.Ytkoimdgpicmakaa.Pure1 Go.Proofs.Ytkoimdgpicmakaa.Pure2 Go.Proofs.Ytkoimdgpicmakaa.Pure4
open Go.RowKit Go.Proofs.Ytkoimdgpicmakaa.Sep Go.Proofs.YtkoimdgpicmakaaW.PrintWords Go.Proofs.YtkoimdgpicmakaaW.PrintLast Go.Proofs.Ytkoimdgpicmakaa.Wm Go.Proofs.Ytkoimdgpicmakaa.Ev Go.Proofs.Ytkoimdgpicmakaa.Ty Go.Proofs.Ytkoimdgpicmakaa.PB
set_option linter.unusedVariables false
set_option linter.unusedSimpArgs false

theorem dList_lr (rest : List Int) (hr : ∀ x ∈ rest, 0 ≤ x ∧ x < 256) : ∀ (l : List S50), (∀ r ∈ l, Rb r) → dList l.length (l.flatMap lr ++ rest) 0 = some (rest, 0, l)
  | [], _ => rfl
  | r :: l, h => by
    have hl : ∀ r ∈ l, Rb r := fun x hx => h x (List.mem_cons_of_mem _ hx)
    have ih := dList_lr rest hr l hl
    obtain ⟨h0, h1, h2, h3, h4, h5⟩ := h r List.mem_cons_self
    have e1 : r.f1 % 4294967296 = r.f1 := Int.emod_eq_of_lt h2 (by omega)
    have e2 : r.f2 % 4294967296 = r.f2 := Int.emod_eq_of_lt h4 (by omega)
    have bl := app_byte (flatR_byte l hl) hr
    have b2 := app_byte (num_byte r.f2 h4 (by omega)) bl
    have k2 := rVar_num r.f1 65535 h2 (by omega) (by decide) (num r.f2 ++ (l.flatMap lr ++ rest)) b2
    have k3 := rVar_num r.f2 65535 h4 (by omega) (by decide) (l.flatMap lr ++ rest) bl
    have hq : (r :: l).flatMap lr ++ rest = r.f0 :: (num r.f1 ++ (num r.f2 ++ (l.flatMap lr ++ rest))) := by
      rw [List.flatMap_cons]
      unfold lr
      rw [e1, e2]
      simp [List.append_assoc]
    rw [List.length_cons, hq]
    unfold dList
    rw [if_pos rfl]
    simp only
    rw [k2]
    simp only
    rw [k3]
    simp only
    rw [ih, Option.map_some, Int.emod_eq_of_lt h2 h3, Int.emod_eq_of_lt h4 h5]
theorem dd_lies {xs : List Int} {m m' : Mo} (h : Lies m xs) {y0 : List Int} {e0 : Int} {a1 : List Int} {b1 : Int} {n1 : Nat} {y1 : List Int} {e1 : Int} {a2 : List Int} {b2 : Int} {n2 : Nat} {y2 : List Int} {e2 : Int} {y3 : List Int} {e3 : Int} {y4 : List Int} {e4 : Int} {a5 : List Int} {b5 : Int} {n5 : Nat} {y5 : List Int} {e5 : Int} (d : Dd (xs.drop 4) y0 e0 a1 b1 n1 y1 e1 a2 b2 n2 y2 e2 y3 e3 y4 e4 a5 b5 n5 y5 e5 m') : e5 = 0 ∧ m' = m := by
  have hok := h.okm
  have hrb := h.rb
  have b5 := rels_byte m.re (by have := hok.nre; omega) hrb
  have b4 := app_byte (wds_byte m.da) b5
  have b3 := app_byte (wds_byte m.co) b4
  have b2 := app_byte (texts_byte m.im (by have := hok.nim; omega)) b3
  have b1' := app_byte (texts_byte m.ex (by have := hok.nex; omega)) b2
  have ht : xs.drop 4 = txt m.nm ++ (texts m.ex ++ (texts m.im ++ (wds m.co ++ (wds m.da ++ rels m.re)))) := h.drop
  rw [ht] at d
  have g0 := (show one39 _ 0 = _ from d.h0).symm.trans (read_one m.nm hok.nnm _ b1')
  simp only [Prod.mk.injEq] at g0
  obtain ⟨rfl, rfl, q0⟩ := g0
  have g1 := d.h1.symm.trans (read_texts m.ex 8 hok.nex (by decide) hok.exs _ b2)
  simp only [Prod.mk.injEq, Int.natCast_inj] at g1
  obtain ⟨rfl, rfl, rfl⟩ := g1
  have g2 := d.l1.symm.trans (list_txt _ b2 m.ex hok.exs)
  simp only [Prod.mk.injEq] at g2
  obtain ⟨rfl, rfl, q1⟩ := g2
  have g3 := d.h2.symm.trans (read_texts m.im 16 hok.nim (by decide) hok.ims _ b3)
  simp only [Prod.mk.injEq, Int.natCast_inj] at g3
  obtain ⟨rfl, rfl, rfl⟩ := g3
  have g4 := d.l2.symm.trans (list_txt _ b3 m.im hok.ims)
  simp only [Prod.mk.injEq] at g4
  obtain ⟨rfl, rfl, q2⟩ := g4
  have g5 := d.h3.symm.trans (read_wds m.co 512 hok.nco (by decide) h.wf.co _ b4)
  simp only [Prod.mk.injEq] at g5
  obtain ⟨rfl, rfl, q3⟩ := g5
  have g6 := d.h4.symm.trans (read_wds m.da 128 hok.nda (by decide) h.wf.da _ b5)
  simp only [Prod.mk.injEq] at g6
  obtain ⟨rfl, rfl, q4⟩ := g6
  have hv : rVar (rels m.re) 0 256 = (m.re.flatMap lr, 0, (m.re.length : Int)) := by
    unfold rels
    exact rVar_num (m.re.length : Int) 256 (by omega) (by have := hok.nre; omega) (by decide) _ (flatR_byte m.re hrb)
  have g7 := d.h5.symm.trans hv
  simp only [Prod.mk.injEq, Int.natCast_inj] at g7
  obtain ⟨rfl, rfl, rfl⟩ := g7
  have hd := dList_lr [] (by simp) m.re hrb
  rw [List.append_nil] at hd
  have g8 := d.l5
  rw [hd] at g8
  simp only [dEnd, Option.map_some, Option.getD_some, List.nil_append, Prod.mk.injEq] at g8
  obtain ⟨rfl, rfl, q5⟩ := g8
  refine ⟨rfl, ?_⟩
  rcases m with ⟨m1, m2, m3, m4, m5, m6⟩
  rcases m' with ⟨m1', m2', m3', m4', m5', m6'⟩
  simp only at q0 q1 q2 q3 q4 q5
  rw [q0, q1, q2, q3, q4, q5]
/-- The document tells the module whose bytes these are. -/
theorem rget_yes (A : Option Addr) (c : Nat) (xs : List Int) (w : World) (hC : Kd.C (Kd.int .u8) w A xs.length xs) (hc : xs.length ≤ c) (hbd : ∀ x ∈ xs, 0 ≤ x ∧ x < 256) (m : Mo) (h : Lies m xs) :
    Calls Try.prog 18 #[.slice A xs.length c] w fun z w' => (∃ A1 c1 A2 c2 A3 c3 A4 c4 A5 c5, z = .returned (.tuple #[.agg #[.string m.nm, .slice A1 m.ex.length c1, .slice A2 m.im.length c2, .slice A3 m.co.length c3, .slice A4 m.da.length c4, .slice A5 m.re.length c5], .int .i64 0]) ∧ (MoA m A1 c1 A2 c2 A3 c3 A4 c4 A5 c5).pred w' ∧ (∀ k, (MoA m A1 c1 A2 c2 A3 c3 A4 c4 A5 c5).foot k → w.heap.size ≤ k)) ∧ Below w.heap.size w w' := by
  have hlo := h.lo
  have hle := h.le
  obtain ⟨_, _, _, _, _, _, _, _, _, _, _, _, _, _, _, _, _, _, _, _, e5, m', d⟩ := dd_any (xs.drop 4) (by rw [List.length_drop]; omega) (fun x hx => hbd x (List.mem_of_mem_drop hx))
  obtain ⟨rfl, rfl⟩ := dd_lies h d
  refine (rget_go A c xs w hC hc (by omega) (by omega) hbd d 0 h.chk xs h.enc).mono ?_
  rintro z w' ⟨h1, h2⟩
  unfold RGot at h1
  rw [if_pos ⟨rfl, rfl, rfl⟩] at h1
  exact ⟨h1, h2⟩
theorem rget_long (A : Option Addr) (c : Nat) (xs : List Int) (w : World) (h : 16384 < xs.length) :
    Calls Try.prog 18 #[.slice A xs.length c] w fun z w' => z = .returned (.tuple #[.agg #[.string ⟨#[]⟩, .slice none 0 0, .slice none 0 0, .slice none 0 0, .slice none 0 0, .slice none 0 0], .int .i64 5]) ∧ Below w.heap.size w w' := by
  have S := Aside0.mk (St.start w)
  have d1 : decide ((xs.length : Int) > 16384) = true := decide_eq_true (by omega)
  go_enter Try.func18, Try.ntmps18
  go_wp2_with (first | ((with_reducible refine gate_dst (N := 2) rfl ?_); refine ev_alloc #[.string ⟨#[]⟩, .slice none 0 0, .slice none 0 0, .slice none 0 0, .slice none 0 0, .slice none 0 0] rfl S ?_ 2 rfl rfl z26 ?_; (first | exact want0 rfl | exact want1 rfl rfl rfl rfl); intro g2 w2 S_; clear S; have S := S_; clear S_) | (refine ev_puts S ?_ rfl rfl s26 rfl rfl (by repeat (first | exact Spot.here _ _ | apply Spot.there)) rfl ?_ ?_ ?_; (first | exact want0 rfl | exact want1 rfl rfl rfl rfl); rfl; rfl; intro w_ S_; simp only [putAt, List.set_cons_zero, List.set_cons_succ] at S_; clear S; have S := S_; clear S_) | (refine ev_puts S ?_ rfl rfl s80 rfl rfl (by repeat (first | exact Spot.here _ _ | apply Spot.there)) rfl ?_ ?_ ?_; (first | exact want0 rfl | exact want1 rfl rfl rfl rfl); rfl; rfl; intro w_ S_; simp only [putAt, List.set_cons_zero, List.set_cons_succ] at S_; clear S; have S := S_; clear S_))
  refine retN (rs := [.cell 2 26, .tmp 3]) rfl rfl ?_ (Bk.vals S rfl (by repeat (first | exact Spot.here _ _ | apply Spot.there)) m26 (by exact rfl) (.tmp .nil)) ?_
  · simp
  exact ⟨rfl, S.out.below⟩
theorem rget_short (A : Option Addr) (c : Nat) (xs : List Int) (w : World) (h : xs.length < 4) :
    Calls Try.prog 18 #[.slice A xs.length c] w fun z w' => z = .returned (.tuple #[.agg #[.string ⟨#[]⟩, .slice none 0 0, .slice none 0 0, .slice none 0 0, .slice none 0 0, .slice none 0 0], .int .i64 4]) ∧ Below w.heap.size w w' := by
  have S := Aside0.mk (St.start w)
  have d1 : decide ((xs.length : Int) > 16384) = false := decide_eq_false (by omega)
  have d2 : decide ((xs.length : Int) < 4) = true := decide_eq_true (by omega)
  go_enter Try.func18, Try.ntmps18
  go_wp2_with (first | ((with_reducible refine gate_dst (N := 2) rfl ?_); refine ev_alloc #[.string ⟨#[]⟩, .slice none 0 0, .slice none 0 0, .slice none 0 0, .slice none 0 0, .slice none 0 0] rfl S ?_ 2 rfl rfl z26 ?_; (first | exact want0 rfl | exact want1 rfl rfl rfl rfl); intro g2 w2 S_; clear S; have S := S_; clear S_) | (refine ev_puts S ?_ rfl rfl s26 rfl rfl (by repeat (first | exact Spot.here _ _ | apply Spot.there)) rfl ?_ ?_ ?_; (first | exact want0 rfl | exact want1 rfl rfl rfl rfl); rfl; rfl; intro w_ S_; simp only [putAt, List.set_cons_zero, List.set_cons_succ] at S_; clear S; have S := S_; clear S_) | (refine ev_puts S ?_ rfl rfl s80 rfl rfl (by repeat (first | exact Spot.here _ _ | apply Spot.there)) rfl ?_ ?_ ?_; (first | exact want0 rfl | exact want1 rfl rfl rfl rfl); rfl; rfl; intro w_ S_; simp only [putAt, List.set_cons_zero, List.set_cons_succ] at S_; clear S; have S := S_; clear S_))
  refine retN (rs := [.cell 2 26, .tmp 3]) rfl rfl ?_ (Bk.vals S rfl (by repeat (first | exact Spot.here _ _ | apply Spot.there)) m26 (by exact rfl) (.tmp .nil)) ?_
  · simp
  exact ⟨rfl, S.out.below⟩
/-- Bytes of no module: none. -/
theorem rget_none (A : Option Addr) (c : Nat) (xs : List Int) (w : World) (hC : Kd.C (Kd.int .u8) w A xs.length xs) (hc : xs.length ≤ c) (hbd : ∀ x ∈ xs, 0 ≤ x ∧ x < 256) (h : ∀ m, ¬ Lies m xs) (e : Int) (he : (if xs.length ≤ 16384 then 4 else 5) = e) :
    Calls Try.prog 18 #[.slice A xs.length c] w fun z w' => z = .returned (.tuple #[.agg #[.string ⟨#[]⟩, .slice none 0 0, .slice none 0 0, .slice none 0 0, .slice none 0 0, .slice none 0 0], .int .i64 e]) ∧ Below w.heap.size w w' := by
  subst he
  by_cases hl : xs.length ≤ 16384
  · rw [if_pos hl]
    by_cases h4 : xs.length < 4
    · exact rget_short A c xs w h4
    obtain ⟨_, _, _, _, _, _, _, _, _, _, _, _, _, _, _, _, _, _, _, _, e5, m, d⟩ := dd_any (xs.drop 4) (by rw [List.length_drop]; omega) (fun x hx => hbd x (List.mem_of_mem_drop hx))
    refine (rget_go A c xs w hC hc (by omega) hl hbd d _ rfl _ rfl).mono ?_
    rintro z w' ⟨h1, h2⟩
    unfold RGot at h1
    rw [if_neg (fun hh => h m ⟨hh.2.1, d.wf, hh.2.2⟩)] at h1
    exact ⟨h1, h2⟩
  · rw [if_neg hl]
    exact rget_long A c xs w (by omega)
end Go.Proofs.Ytkoimdgpicmakaa.Ob
