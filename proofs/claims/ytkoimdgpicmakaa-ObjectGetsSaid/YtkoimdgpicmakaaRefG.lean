/- The document reads a module (budwoodref10.Get). -/
import Derived.Test.YtkoimdgpicmakaaRefP
import Derived.Test.YtkoimdgpicmakaaZRf
namespace Go.Proofs.Ytkoimdgpicmakaa.Ob
open Go.Proofs.Ytkoimdgpicmakaa.Reader Go.Proofs.Ytkoimdgpicmakaa.RefR Go.Proofs.Ytkoimdgpicmakaa.Inv Go.Proofs.Ytkoimdgpicmakaa.Pure1 Go.Proofs.Ytkoimdgpicmakaa.Pure2 Go.Proofs.Ytkoimdgpicmakaa.Pure4
open Go.RowKit Go.Proofs.Ytkoimdgpicmakaa.Sep Go.Proofs.YtkoimdgpicmakaaW.PrintWords Go.Proofs.YtkoimdgpicmakaaW.PrintLast Go.Proofs.Ytkoimdgpicmakaa.Wm Go.Proofs.Ytkoimdgpicmakaa.Ev Go.Proofs.Ytkoimdgpicmakaa.Ty Go.Proofs.Ytkoimdgpicmakaa.PB
set_option linter.unusedVariables false
set_option linter.unusedSimpArgs false

section
variable {B : Nat} {w W : World} {L : List Asn} {A : Option Addr} {c : Nat} {xs ys : List Int} {e f : Int}
theorem rvarS (S : Aside0 (St w.heap.size w W L)) (hR : RS B w (.agg #[.slice A xs.length c, .int .i64 e]) xs e) (hB : B ≤ w.heap.size) (most : Int) (hbd : ∀ x ∈ xs, 0 ≤ x ∧ x < 256) {n : Int} (hv : rVar xs e most = (ys, f, n)) :
    Calls Try.prog 70 #[.agg #[.slice A xs.length c, .int .i64 e], .int .u32 most] W fun z W' => ∃ A' c', z = .returned (.tuple #[.agg #[.slice A' ys.length c', .int .i64 f], .int .u32 n]) ∧ RS B w (.agg #[.slice A' ys.length c', .int .i64 f]) ys f ∧ Aside0 (St w.heap.size w W' L) := by
  have hb := S.out.below.mono hB
  refine (rvarR most W (hR.under hb) hbd).mono ?_
  rw [hv]
  rintro z W' ⟨v, u, rfl, hr, rfl, hbl⟩
  obtain ⟨A', c', rfl, h2, h3, h4⟩ := hr
  exact ⟨A', c', rfl, RS.back ⟨A', c', rfl, h2, h3, h4⟩ hb, ⟨S.out.keep hbl⟩⟩
theorem rvarSL (S : Aside0 (St w.heap.size w W L)) {m : Nat} (hR : RS B w (.agg #[.slice A xs.length c, .int .i64 e]) xs e) (hB : B ≤ w.heap.size) (most : Int) (hbd : ∀ x ∈ xs, 0 ≤ x ∧ x < 256) {n : Int} (hv : rVar xs e most = (ys, f, n)) (hm : xs.length = m) :
    Calls Try.prog 70 #[.agg #[.slice A m c, .int .i64 e], .int .u32 most] W fun z W' => ∃ A' c', z = .returned (.tuple #[.agg #[.slice A' ys.length c', .int .i64 f], .int .u32 n]) ∧ RS B w (.agg #[.slice A' ys.length c', .int .i64 f]) ys f ∧ Aside0 (St w.heap.size w W' L) := by
  subst hm
  exact rvarS S hR hB most hbd hv
theorem rtextS (S : Aside0 (St w.heap.size w W L)) (hR : RS B w (.agg #[.slice A xs.length c, .int .i64 e]) xs e) (hB : B ≤ w.heap.size) (most : Int) (hbd : ∀ x ∈ xs, 0 ≤ x ∧ x < 256) {s : ByteArray} (hv : ((rText xs e most).1, (rText xs e most).2.1, strOfNums (rText xs e most).2.2) = (ys, f, s)) :
    Calls Try.prog 49 #[.agg #[.slice A xs.length c, .int .i64 e], .int .i64 most] W fun z W' => ∃ A' c', z = .returned (.tuple #[.agg #[.slice A' ys.length c', .int .i64 f], .string s]) ∧ RS B w (.agg #[.slice A' ys.length c', .int .i64 f]) ys f ∧ Aside0 (St w.heap.size w W' L) := by
  have hb := S.out.below.mono hB
  refine (rtextR most W (Nat.le_trans hB S.out.below.size) (hR.under hb) hbd).mono ?_
  simp only [Prod.mk.injEq] at hv
  obtain ⟨h1, h2, h3⟩ := hv
  rw [h1, h2]
  rintro z W' ⟨v, u, rfl, hr, hu, hbl⟩
  subst hu
  rw [h3]
  obtain ⟨A', c', rfl, h2, h3, h4⟩ := hr
  exact ⟨A', c', rfl, RS.back ⟨A', c', rfl, h2, h3, h4⟩ hb, ⟨S.out.keep hbl⟩⟩
theorem rwordsS (S : Aside0 (St w.heap.size w W L)) (hR : RS B w (.agg #[.slice A xs.length c, .int .i64 e]) xs e) (hB : B ≤ w.heap.size) (most : Int) (hbd : ∀ x ∈ xs, 0 ≤ x ∧ x < 256) (hx : xs.length ≤ 16384) {l : List Int} (hv : rWords xs e most = (ys, f, l)) :
    Calls Try.prog 51 #[.agg #[.slice A xs.length c, .int .i64 e], .int .i64 most] W fun z W' => ∃ A' c' A2 c2, z = .returned (.tuple #[.agg #[.slice A' ys.length c', .int .i64 f], .slice A2 l.length c2]) ∧ RS B w (.agg #[.slice A' ys.length c', .int .i64 f]) ys f ∧ Aside0 (St w.heap.size w W' (Ow (Kd.int .u32) 43 A2 c2 l :: L)) := by
  have hb := S.out.below.mono hB
  refine (rwordsR most W (Nat.le_trans hB S.out.below.size) (hR.under hb) hbd (by omega)).mono ?_
  rw [hv]
  rintro z W' ⟨v, u, rfl, hr, hu, hbl⟩
  obtain ⟨A', c', rfl, h2, h3, h4⟩ := hr
  obtain ⟨A2, c2, rfl, _⟩ := Kd.R_reads hu
  exact ⟨A', c', A2, c2, rfl, RS.back ⟨A', c', rfl, h2, h3, h4⟩ hb, ⟨St.add S.out hbl _ (Ow.mk rfl hu) (Ow.new hu)⟩⟩
theorem RS_tail1 {x : Int} {r : List Int} (h : RS B w (.agg #[.slice A xs.length c, .int .i64 e]) xs e) (hx : xs = x :: r) (hc : c = 1) : RS B w (.agg #[.slice A r.length 0, .int .i64 0]) r 0 := by
  obtain ⟨A', c', e1, h2, h3, h4⟩ := h
  have e2 : c = c' := by simp at e1; exact e1.2
  have hr : r = [] := by
    rw [hx, List.length_cons] at h2
    exact List.eq_nil_of_length_eq_zero (by omega)
  subst hr
  exact ⟨A, 0, rfl, by simp, ⟨rfl, by simp, fun hn => absurd hn (by simp)⟩, fun ad _ hn => absurd hn (by simp)⟩
theorem RS_tailn {x : Int} {r : List Int} {b o : Nat} (h : RS B w (.agg #[.slice (some ⟨b, o, none⟩) xs.length c, .int .i64 e]) xs e) (hx : xs = x :: r) (hc : ¬ c = 1) : RS B w (.agg #[.slice (some ⟨b, o + 1, none⟩) r.length (c - 1), .int .i64 0]) r 0 := by
  obtain ⟨A', c', e1, h2, h3, h4⟩ := h
  have e0 : (some ⟨b, o, none⟩ : Option Addr) = A' ∧ c = c' := by simp at e1; exact e1
  obtain ⟨rfl, rfl⟩ := e0
  have h5 := Kd.C_drop (c := c) (m := 1) h3 (by rw [hx]; simp) h2
  rw [if_neg hc] at h5
  have e3 : xs.drop 1 = r := by rw [hx]; rfl
  rw [e3] at h5
  have e4 : (Option.map (fun y : Addr => y.add (1 * (Kd.int .u8).sz)) (some ⟨b, o, none⟩)) = some ⟨b, o + 1, none⟩ := by
    simp only [Option.map_some, Option.some.injEq]
    unfold Addr.add; simp [show (Kd.int .u8).sz = 1 from rfl]
  rw [e4] at h5
  refine ⟨_, _, rfl, by rw [hx, List.length_cons] at h2; omega, h5, fun ad ha _ => ?_⟩
  obtain rfl := Option.some.inj ha
  exact h4 ⟨b, o, none⟩ rfl (by rw [hx]; simp)
end
theorem rList_bytes (n : Nat) (xs : List Int) (e : Int) (h : ∀ x ∈ xs, 0 ≤ x ∧ x < 256) : ∀ x ∈ (one39 xs e).1, 0 ≤ x ∧ x < 256 := by
  unfold one39 rText
  exact (rTake_byte (rVar_byte h)).1
set_option maxRecDepth 100000 in
set_option maxHeartbeats 8000000 in
theorem gettexts {B : Nat} (A : Option Addr) (c : Nat) (xs : List Int) (e : Int) (w : World) (hR : RS B w (.agg #[.slice A xs.length c, .int .i64 e]) xs e) (hB : B ≤ w.heap.size) (hbd : ∀ x ∈ xs, 0 ≤ x ∧ x < 256) (most : Int) {a1 ys : List Int} {b1 f : Int} {n : Nat} {l : List ByteArray} (hv : rVar xs e most = (a1, b1, (n : Int))) (hl : rList one39 n a1 b1 = (ys, f, l)) (hn : n ≤ 1000) :
    Calls Try.prog 50 #[.agg #[.slice A xs.length c, .int .i64 e], .int .u32 most] w fun z w' => ∃ A' c' A2 c2, z = .returned (.tuple #[.agg #[.slice A' ys.length c', .int .i64 f], .slice A2 l.length c2]) ∧ RS B w (.agg #[.slice A' ys.length c', .int .i64 f]) ys f ∧ (Ow Kd.string 9 A2 c2 l).pred w' ∧ (∀ k, (Ow Kd.string 9 A2 c2 l).foot k → w.heap.size ≤ k) ∧ Below w.heap.size w w' := by
  have S := Aside0.mk (St.start w)
  have HR0 := Aside0.mk hR
  have HV := Aside0.mk hv
  have HB1 : Aside0 (∀ x ∈ a1, 0 ≤ x ∧ x < 256) := ⟨by have := rVar_byte (e := e) (most := most) hbd; rw [hv] at this; exact this⟩
  clear hR hv
  go_enter Try.func50, Try.ntmps50
  go_wp2_with (first | ((with_reducible refine gate_dst (N := 2) rfl ?_); refine ev_boxs S ?_ 2 rfl rfl rfl ?_; (first | exact want0 rfl | exact want1 rfl rfl rfl rfl); intro g2 w2 S_; clear S; have S := S_; clear S_) | ((with_reducible refine gate_dst (N := 4) rfl ?_); refine ev_alloc #[.slice none 0 0, .int .i64 0] rfl S ?_ 4 rfl rfl z80 ?_; (first | exact want0 rfl | exact want1 rfl rfl rfl rfl); intro g4 w4 S_; clear S; have S := S_; clear S_) | (refine ev_owns (vs := [_, _]) S ?_ rfl m80 rfl (by repeat (first | exact Spot.here _ _ | apply Spot.there)) (by exact rfl) ?_; (first | exact want0 rfl | exact want1 rfl rfl rfl rfl)) | (refine ev_puts S ?_ rfl rfl s80 rfl rfl (by repeat (first | exact Spot.here _ _ | apply Spot.there)) rfl ?_ ?_ ?_; (first | exact want0 rfl | exact want1 rfl rfl rfl rfl); rfl; rfl; intro w_ S_; simp only [putAt, List.set_cons_zero, List.set_cons_succ] at S_; clear S; have S := S_; clear S_) | (refine ev_own1 S ?_ rfl o3 rfl (by repeat (first | exact Spot.here _ _ | apply Spot.there)) (by exact rfl) ?_; (first | exact want0 rfl | exact want1 rfl rfl rfl rfl)) | (go_at_call 70; (with_reducible refine (rvarS S HR0.out hB most hbd HV.out).mono ?_); rintro z_ w_ ⟨A1, c1, rfl, hr_, S_⟩; have HR1 := Aside0.mk hr_; clear hr_; clear S; have S := S_; clear S_))
  go_loopw [7, 8] (fun v7 v8 wr => ∃ (i : Nat) (A2 : Option Addr) (c2 : Nat) (acc : List ByteArray) (A' : Option Addr) (c' : Nat) (xi : List Int) (ei : Int), v7 = .slice A2 acc.length c2 ∧ v8 = .int .i64 i ∧ i ≤ n ∧ acc.length ≤ i ∧ Aside0 (RS B w (.agg #[.slice A' xi.length c', .int .i64 ei]) xi ei) ∧ Aside0 (∀ x ∈ xi, 0 ≤ x ∧ x < 256) ∧ Aside0 (∃ suf, rList one39 (n - i) xi ei = (ys, f, suf) ∧ acc ++ suf = l) ∧ Aside0 (St w.heap.size w wr [Ow Kd.string 9 A2 c2 acc, Bk g4 #[.slice none 0 0, .int .i64 0] 80, Bk g2 #[.slice A' xi.length c', .int .i64 ei] 80])) (fun _ v8 _ => n - (intOf v8).toNat)
  case atStart => exact ⟨0, none, 0, [], A1, c1, a1, b1, rfl, rfl, Nat.zero_le _, Nat.le_refl _, HR1, HB1, ⟨⟨l, hl, rfl⟩⟩, ⟨(add_nil Kd.string 9 S.out)⟩⟩
  case round =>
    clear S HR1 HB1
    obtain ⟨i, A2, c2, acc, A', c', xi, ei, rfl, rfl, hi, hal, HRi, hbi, HI, S⟩ := hrel
    by_cases hlt : i < n
    · have hd2 : decide ((i : Int) < (n : Int)) = true := decide_eq_true (by omega)
      have hil : (i : Int) < (n : Int) := by omega
      by_cases he : ei = 0
      · subst he
        have hi0 : (0 : Int) ≤ (i : Int) := by omega
        have HB2 := Aside0.mk (show n - (i + 1) < n - i by omega)
        have HI1 := Aside0.mk (show wrap64 ((i : Int) + 1) = ((i + 1 : Nat) : Int) from w64 i (by omega))
        obtain ⟨suf, h1, h2⟩ := HI.out
        rw [show n - i = (n - (i + 1)) + 1 by omega] at h1
        unfold rList at h1
        rw [if_pos rfl] at h1
        rcases ht : one39 xi 0 with ⟨y1, f1, s⟩
        rcases hq : rList one39 (n - (i + 1)) y1 f1 with ⟨q1, q2, q3⟩
        rw [ht] at h1
        simp only at h1
        rw [hq] at h1
        simp only [Prod.mk.injEq] at h1
        obtain ⟨rfl, rfl, rfl⟩ := h1
        have HT := Aside0.mk (show ((rText xi 0 96).1, (rText xi 0 96).2.1, strOfNums (rText xi 0 96).2.2) = (y1, f1, s) from ht)
        have HBY : Aside0 (∀ x ∈ y1, 0 ≤ x ∧ x < 256) := ⟨by have := rList_bytes 0 xi 0 hbi.out; rw [ht] at this; exact this⟩
        have HN : Aside0 (∃ suf, rList one39 (n - (i + 1)) y1 f1 = (q1, q2, suf) ∧ (acc ++ [s]) ++ suf = l) := ⟨⟨q3, hq, by rw [List.append_assoc]; exact h2⟩⟩
        have HCAP := Aside0.mk (show (acc.length + 1) * 16 ≤ 140737488355328 by omega)
        have hal2 : (acc ++ [s]).length ≤ i + 1 := by rw [List.length_append]; simp; omega
        clear ht hq h2 HI
        go_wp2_with (first | ((with_reducible refine gate_dst (N := 34) rfl ?_); refine ev_lit (enc := Value.string) (h1 := fun _ => rfl) (e := 9) ([s] : List ByteArray) S rfl 34 rfl ?hrun (by simp) ?_; (case hrun => first | (go_simp; done) | (go_simp; rfl)); intro A34 c34 w_ S_; clear S; have S := S_; clear S_) | (((with_reducible refine gate_builtin (b := .append) (xs := #[.tmp 32, .tmp 34]) rfl ?_); at_builtin; refine ev_rows (enc := Value.string) (h1 := fun _ => rfl) (e := 9) ByteArray.empty (.tmp 32) (.tmp 34) 22 (.string ⟨#[]⟩) 16 (n := acc.length) (xs := acc) (ys := [s]) S rfl rfl Try.underlying22 info9 rfl (by decide) rfl rfl (by repeat (first | exact Spot.here _ _ | apply Spot.there)) rfl (Ow.reads (pAt S.out (Ow Kd.string 9 A34 c34 [s]))) HCAP.out ?_; intro A35 c35 w_ S_; clear S; have S := S_; clear S_)) | ((with_reducible refine gate_dst (N := 2) rfl ?_); refine ev_boxs S ?_ 2 rfl rfl rfl ?_; (first | exact want0 rfl | exact want1 rfl rfl rfl rfl); intro g2 w2 S_; clear S; have S := S_; clear S_) | ((with_reducible refine gate_dst (N := 4) rfl ?_); refine ev_alloc #[.slice none 0 0, .int .i64 0] rfl S ?_ 4 rfl rfl z80 ?_; (first | exact want0 rfl | exact want1 rfl rfl rfl rfl); intro g4 w4 S_; clear S; have S := S_; clear S_) | (refine ev_owns (vs := [_, _]) S ?_ rfl m80 rfl (by repeat (first | exact Spot.here _ _ | apply Spot.there)) (by exact rfl) ?_; (first | exact want0 rfl | exact want1 rfl rfl rfl rfl)) | (refine ev_puts S ?_ rfl rfl s80 rfl rfl (by repeat (first | exact Spot.here _ _ | apply Spot.there)) rfl ?_ ?_ ?_; (first | exact want0 rfl | exact want1 rfl rfl rfl rfl); rfl; rfl; intro w_ S_; simp only [putAt, List.set_cons_zero, List.set_cons_succ] at S_; clear S; have S := S_; clear S_) | (refine ev_own1 S ?_ rfl o3 rfl (by repeat (first | exact Spot.here _ _ | apply Spot.there)) (by exact rfl) ?_; (first | exact want0 rfl | exact want1 rfl rfl rfl rfl)) | (go_at_call 49; (with_reducible refine (rtextS S HRi.out hB 96 (hbi.out) HT.out).mono ?_); rintro z_ w_ ⟨A49, c49, rfl, hr_, S_⟩; have HR49 := Aside0.mk hr_; clear hr_; clear S; have S := S_; clear S_))
        refine ⟨⟨i + 1, A35, c35, acc ++ [s], A49, c49, y1, f1, by simp, by simp [HI1.out], hlt, hal2, HR49, HBY, HN, ⟨S.out.drop (by repeat (first | exact List.Sublist.refl _ | apply List.Sublist.cons_cons | apply List.Sublist.cons))⟩⟩, ?_⟩
        simpa [intOf, HI1.out] using HB2.out
      · have hez : (ei == 0) = false := by simpa using he
        obtain ⟨suf, h1, h2⟩ := HI.out
        rw [show n - i = (n - (i + 1)) + 1 by omega] at h1
        unfold rList at h1
        rw [if_neg he] at h1
        simp only [Prod.mk.injEq] at h1
        obtain ⟨rfl, rfl, rfl⟩ := h1
        rw [List.append_nil] at h2
        subst h2
        clear HI
        go_wp2_with (first | ((with_reducible refine gate_dst (N := 34) rfl ?_); refine ev_lit (enc := Value.string) (h1 := fun _ => rfl) (e := 9) ([s] : List ByteArray) S rfl 34 rfl ?hrun (by simp) ?_; (case hrun => first | (go_simp; done) | (go_simp; rfl)); intro A34 c34 w_ S_; clear S; have S := S_; clear S_) | (((with_reducible refine gate_builtin (b := .append) (xs := #[.tmp 32, .tmp 34]) rfl ?_); at_builtin; refine ev_rows (enc := Value.string) (h1 := fun _ => rfl) (e := 9) ByteArray.empty (.tmp 32) (.tmp 34) 22 (.string ⟨#[]⟩) 16 (n := acc.length) (xs := acc) (ys := [s]) S rfl rfl Try.underlying22 info9 rfl (by decide) rfl rfl (by repeat (first | exact Spot.here _ _ | apply Spot.there)) rfl (Ow.reads (pAt S.out (Ow Kd.string 9 A34 c34 [s]))) HCAP.out ?_; intro A35 c35 w_ S_; clear S; have S := S_; clear S_)) | ((with_reducible refine gate_dst (N := 2) rfl ?_); refine ev_boxs S ?_ 2 rfl rfl rfl ?_; (first | exact want0 rfl | exact want1 rfl rfl rfl rfl); intro g2 w2 S_; clear S; have S := S_; clear S_) | ((with_reducible refine gate_dst (N := 4) rfl ?_); refine ev_alloc #[.slice none 0 0, .int .i64 0] rfl S ?_ 4 rfl rfl z80 ?_; (first | exact want0 rfl | exact want1 rfl rfl rfl rfl); intro g4 w4 S_; clear S; have S := S_; clear S_) | (refine ev_owns (vs := [_, _]) S ?_ rfl m80 rfl (by repeat (first | exact Spot.here _ _ | apply Spot.there)) (by exact rfl) ?_; (first | exact want0 rfl | exact want1 rfl rfl rfl rfl)) | (refine ev_puts S ?_ rfl rfl s80 rfl rfl (by repeat (first | exact Spot.here _ _ | apply Spot.there)) rfl ?_ ?_ ?_; (first | exact want0 rfl | exact want1 rfl rfl rfl rfl); rfl; rfl; intro w_ S_; simp only [putAt, List.set_cons_zero, List.set_cons_succ] at S_; clear S; have S := S_; clear S_) | (refine ev_own1 S ?_ rfl o3 rfl (by repeat (first | exact Spot.here _ _ | apply Spot.there)) (by exact rfl) ?_; (first | exact want0 rfl | exact want1 rfl rfl rfl rfl)) | (go_at_call 49; (with_reducible refine (rtextS S HRi.out hB 96 (hbi.out) HT.out).mono ?_); rintro z_ w_ ⟨A49, c49, rfl, hr_, S_⟩; have HR49 := Aside0.mk hr_; clear hr_; clear S; have S := S_; clear S_))
        refine retN (rs := [.cell 4 80, .tmp 5]) rfl rfl ?_ (Bk.vals S rfl (by repeat (first | exact Spot.here _ _ | apply Spot.there)) m80 (by exact rfl) (.tmp .nil)) ?_
        · simp
        exact ⟨_, _, _, _, rfl, HRi.out, pred_at S.out (by repeat (first | exact Spot.here _ _ | apply Spot.there)), new_at S.out (by repeat (first | exact Spot.here _ _ | apply Spot.there)), S.out.below⟩
    · obtain rfl : i = n := by omega
      have hd2 : decide ((i : Int) < (i : Int)) = false := decide_eq_false (by omega)
      obtain ⟨suf, h1, h2⟩ := HI.out
      rw [Nat.sub_self] at h1
      unfold rList at h1
      simp only [Prod.mk.injEq] at h1
      obtain ⟨rfl, rfl, rfl⟩ := h1
      rw [List.append_nil] at h2
      subst h2
      clear HI
      go_wp2_with (first | ((with_reducible refine gate_dst (N := 34) rfl ?_); refine ev_lit (enc := Value.string) (h1 := fun _ => rfl) (e := 9) ([s] : List ByteArray) S rfl 34 rfl ?hrun (by simp) ?_; (case hrun => first | (go_simp; done) | (go_simp; rfl)); intro A34 c34 w_ S_; clear S; have S := S_; clear S_) | (((with_reducible refine gate_builtin (b := .append) (xs := #[.tmp 32, .tmp 34]) rfl ?_); at_builtin; refine ev_rows (enc := Value.string) (h1 := fun _ => rfl) (e := 9) ByteArray.empty (.tmp 32) (.tmp 34) 22 (.string ⟨#[]⟩) 16 (n := acc.length) (xs := acc) (ys := [s]) S rfl rfl Try.underlying22 info9 rfl (by decide) rfl rfl (by repeat (first | exact Spot.here _ _ | apply Spot.there)) rfl (Ow.reads (pAt S.out (Ow Kd.string 9 A34 c34 [s]))) HCAP.out ?_; intro A35 c35 w_ S_; clear S; have S := S_; clear S_)) | ((with_reducible refine gate_dst (N := 2) rfl ?_); refine ev_boxs S ?_ 2 rfl rfl rfl ?_; (first | exact want0 rfl | exact want1 rfl rfl rfl rfl); intro g2 w2 S_; clear S; have S := S_; clear S_) | ((with_reducible refine gate_dst (N := 4) rfl ?_); refine ev_alloc #[.slice none 0 0, .int .i64 0] rfl S ?_ 4 rfl rfl z80 ?_; (first | exact want0 rfl | exact want1 rfl rfl rfl rfl); intro g4 w4 S_; clear S; have S := S_; clear S_) | (refine ev_owns (vs := [_, _]) S ?_ rfl m80 rfl (by repeat (first | exact Spot.here _ _ | apply Spot.there)) (by exact rfl) ?_; (first | exact want0 rfl | exact want1 rfl rfl rfl rfl)) | (refine ev_puts S ?_ rfl rfl s80 rfl rfl (by repeat (first | exact Spot.here _ _ | apply Spot.there)) rfl ?_ ?_ ?_; (first | exact want0 rfl | exact want1 rfl rfl rfl rfl); rfl; rfl; intro w_ S_; simp only [putAt, List.set_cons_zero, List.set_cons_succ] at S_; clear S; have S := S_; clear S_) | (refine ev_own1 S ?_ rfl o3 rfl (by repeat (first | exact Spot.here _ _ | apply Spot.there)) (by exact rfl) ?_; (first | exact want0 rfl | exact want1 rfl rfl rfl rfl)) | (go_at_call 49; (with_reducible refine (rtextS S HRi.out hB 96 (hbi.out) HT.out).mono ?_); rintro z_ w_ ⟨A49, c49, rfl, hr_, S_⟩; have HR49 := Aside0.mk hr_; clear hr_; clear S; have S := S_; clear S_))
      refine retN (rs := [.cell 4 80, .tmp 5]) rfl rfl ?_ (Bk.vals S rfl (by repeat (first | exact Spot.here _ _ | apply Spot.there)) m80 (by exact rfl) (.tmp .nil)) ?_
      · simp
      exact ⟨_, _, _, _, rfl, HRi.out, pred_at S.out (by repeat (first | exact Spot.here _ _ | apply Spot.there)), new_at S.out (by repeat (first | exact Spot.here _ _ | apply Spot.there)), S.out.below⟩

/-- What the document reads as relocs; none: the bytes end. -/
def dList : Nat → List Int → Int → Option (List Int × Int × List S50)
  | 0, xs, e => some (xs, e, [])
  | n + 1, xs, e => if e = 0 then (match xs with
      | [] => none
      | b :: r => (dList n (rVar (rVar r 0 65535).1 (rVar r 0 65535).2.1 65535).1 (rVar (rVar r 0 65535).1 (rVar r 0 65535).2.1 65535).2.1).map (fun q => (q.1, q.2.1, (⟨b, (rVar r 0 65535).2.2 % 65536, (rVar (rVar r 0 65535).1 (rVar r 0 65535).2.1 65535).2.2 % 65536⟩ : S50) :: q.2.2)))
    else some (xs, e, [])
def dEnd (acc : List S50) (q : Option (List Int × Int × List S50)) : List Int × Int × List S50 := (q.map (fun q => (q.1, q.2.1, acc ++ q.2.2))).getD ([], 3, [])
set_option maxRecDepth 100000 in
set_option maxHeartbeats 16000000 in
theorem getrelocs {B : Nat} (A : Option Addr) (c : Nat) (xs : List Int) (e : Int) (w : World) (hR : RS B w (.agg #[.slice A xs.length c, .int .i64 e]) xs e) (hB : B ≤ w.heap.size) (hbd : ∀ x ∈ xs, 0 ≤ x ∧ x < 256) {a1 ys : List Int} {b1 f : Int} {n : Nat} {l : List S50} (hv : rVar xs e 256 = (a1, b1, (n : Int))) (hl : dEnd [] (dList n a1 b1) = (ys, f, l)) (hn : n ≤ 1000) :
    Calls Try.prog 52 #[.agg #[.slice A xs.length c, .int .i64 e]] w fun z w' => ∃ A' c' A2 c2, z = .returned (.tuple #[.agg #[.slice A' ys.length c', .int .i64 f], .slice A2 l.length c2]) ∧ RS B w (.agg #[.slice A' ys.length c', .int .i64 f]) ys f ∧ (Ow k50 50 A2 c2 l).pred w' ∧ (∀ k, (Ow k50 50 A2 c2 l).foot k → w.heap.size ≤ k) ∧ Below w.heap.size w w' := by
  have S := Aside0.mk (St.start w)
  have HR0 := Aside0.mk hR
  have HV := Aside0.mk hv
  have HB1 : Aside0 (∀ x ∈ a1, 0 ≤ x ∧ x < 256) := ⟨by have := rVar_byte (e := e) (most := 256) hbd; rw [hv] at this; exact this⟩
  have HE := Aside0.mk hl
  clear hR hv hl
  go_enter Try.func52, Try.ntmps52
  go_wp2_with (first | ((with_reducible refine gate_dst (N := 1) rfl ?_); refine ev_boxs S ?_ 1 rfl rfl rfl ?_; (first | exact want0 rfl | exact want1 rfl rfl rfl rfl); intro g1 w1 S_; clear S; have S := S_; clear S_) | ((with_reducible refine gate_dst (N := 2) rfl ?_); refine ev_alloc #[.slice none 0 0, .int .i64 0] rfl S ?_ 2 rfl rfl z80 ?_; (first | exact want0 rfl | exact want1 rfl rfl rfl rfl); intro g2 w2 S_; clear S; have S := S_; clear S_) | (refine ev_owns (vs := [_, _]) S ?_ rfl m80 rfl (by repeat (first | exact Spot.here _ _ | apply Spot.there)) (by exact rfl) ?_; (first | exact want0 rfl | exact want1 rfl rfl rfl rfl)) | (refine ev_puts S ?_ rfl rfl s80 rfl rfl (by repeat (first | exact Spot.here _ _ | apply Spot.there)) rfl ?_ ?_ ?_; (first | exact want0 rfl | exact want1 rfl rfl rfl rfl); rfl; rfl; intro w_ S_; simp only [putAt, List.set_cons_zero, List.set_cons_succ] at S_; clear S; have S := S_; clear S_) | (refine ev_own1 S ?_ rfl o3 rfl (by repeat (first | exact Spot.here _ _ | apply Spot.there)) (by exact rfl) ?_; (first | exact want0 rfl | exact want1 rfl rfl rfl rfl)) | (refine ev_own1 S ?_ rfl o30 rfl (by repeat (first | exact Spot.here _ _ | apply Spot.there)) (by exact rfl) ?_; (first | exact want0 rfl | exact want1 rfl rfl rfl rfl)) | (refine ev_own1 S ?_ rfl o5 rfl (by repeat (first | exact Spot.here _ _ | apply Spot.there)) (by exact rfl) ?_; (first | exact want0 rfl | exact want1 rfl rfl rfl rfl)) | (go_at_call 70; (with_reducible refine (rvarS S HR0.out hB 256 hbd HV.out).mono ?_); rintro z_ w_ ⟨A1, c1, rfl, hr_, S_⟩; have HR1 := Aside0.mk hr_; clear hr_; clear S; have S := S_; clear S_))
  go_loopw [5, 6] (fun v5 v6 wr => ∃ (i : Nat) (A2 : Option Addr) (c2 : Nat) (acc : List S50) (A' : Option Addr) (c' : Nat) (xi : List Int) (ei : Int), v5 = .slice A2 acc.length c2 ∧ v6 = .int .i64 i ∧ i ≤ n ∧ acc.length ≤ i ∧ Aside0 (RS B w (.agg #[.slice A' xi.length c', .int .i64 ei]) xi ei) ∧ Aside0 (∀ x ∈ xi, 0 ≤ x ∧ x < 256) ∧ Aside0 (dEnd acc (dList (n - i) xi ei) = (ys, f, l)) ∧ Aside0 (St w.heap.size w wr [Ow k50 50 A2 c2 acc, Bk g2 #[.slice none 0 0, .int .i64 0] 80, Bk g1 #[.slice A' xi.length c', .int .i64 ei] 80])) (fun _ v6 _ => n - (intOf v6).toNat)
  case atStart => exact ⟨0, none, 0, [], A1, c1, a1, b1, rfl, rfl, Nat.zero_le _, Nat.le_refl _, HR1, HB1, ⟨HE.out⟩, ⟨(add_nil k50 50 S.out)⟩⟩
  case round =>
    clear S HR1 HB1 HE
    obtain ⟨i, A2, c2, acc, A', c', xi, ei, rfl, rfl, hi, hal, HRi, hbi, HI, S⟩ := hrel
    by_cases hlt : i < n
    · have hd2 : decide ((i : Int) < (n : Int)) = true := decide_eq_true (by omega)
      have hil : (i : Int) < (n : Int) := by omega
      by_cases he : ei = 0
      · subst he
        have h1 := HI.out
        rw [show n - i = (n - (i + 1)) + 1 by omega] at h1
        unfold dList at h1
        rw [if_pos rfl] at h1
        have hcase : xi = [] ∨ ∃ b r, xi = b :: r := by
          cases xi with
          | nil => exact .inl rfl
          | cons b r => exact .inr ⟨_, _, rfl⟩
        rcases hcase with hx0 | ⟨b, r, hxi⟩
        · subst hx0
          simp only [dEnd, Option.map_none, Option.getD_none, Prod.mk.injEq] at h1
          obtain ⟨rfl, rfl, rfl⟩ := h1
          clear HI
          go_wp2_with (first | (refine ev_load1 ?_ rfl o5 rfl (old_ S HX0.out) ?_; (first | exact want0 rfl | exact want1 rfl rfl rfl rfl)) | ((with_reducible refine gate_dst (N := 56) rfl ?_); refine ev_litS (d := k50) (e := 50) [x] (inner := [.int .u8 x.f0, .int .u16 x.f1, .int .u16 x.f2]) rfl S rfl 56 rfl (by first | (go_simp; done) | (go_simp; rfl) | (go_simp; rw [x1, x2])) (Reps.snoc (Reps.none _ _) (k50_mkM _ _ _ x) rfl) (by simp) ?_; intro A56 c56 w_ S_; clear S; have S := S_; clear S_) | (((with_reducible refine gate_builtin (b := .append) (xs := #[.tmp 49, .tmp 56]) rfl ?_); at_builtin; refine ev_rowsS (d := k50) (e := 50) (.tmp 49) (.tmp 56) 24 (.agg #[.int .u8 0, .int .u16 0, .int .u16 0]) 6 (n := acc.length) (xs := acc) (ys := [x]) rfl (fun W x cs hk => by obtain rfl := k50_open hk; exact k50_mkM _ _ _ _) (by decide) S rfl rfl Try.underlying24 info50 rfl (by decide) rfl rfl (by repeat (first | exact Spot.here _ _ | apply Spot.there)) rfl (Ow.reads (pAt S.out (Ow k50 50 A56 c56 [x]))) HCAP.out ?_; intro A57 c57 w_ S_; clear S; have S := S_; clear S_)) | ((with_reducible refine gate_dst (N := 1) rfl ?_); refine ev_boxs S ?_ 1 rfl rfl rfl ?_; (first | exact want0 rfl | exact want1 rfl rfl rfl rfl); intro g1 w1 S_; clear S; have S := S_; clear S_) | ((with_reducible refine gate_dst (N := 2) rfl ?_); refine ev_alloc #[.slice none 0 0, .int .i64 0] rfl S ?_ 2 rfl rfl z80 ?_; (first | exact want0 rfl | exact want1 rfl rfl rfl rfl); intro g2 w2 S_; clear S; have S := S_; clear S_) | (refine ev_owns (vs := [_, _]) S ?_ rfl m80 rfl (by repeat (first | exact Spot.here _ _ | apply Spot.there)) (by exact rfl) ?_; (first | exact want0 rfl | exact want1 rfl rfl rfl rfl)) | (refine ev_puts S ?_ rfl rfl s80 rfl rfl (by repeat (first | exact Spot.here _ _ | apply Spot.there)) rfl ?_ ?_ ?_; (first | exact want0 rfl | exact want1 rfl rfl rfl rfl); rfl; rfl; intro w_ S_; simp only [putAt, List.set_cons_zero, List.set_cons_succ] at S_; clear S; have S := S_; clear S_) | (refine ev_own1 S ?_ rfl o3 rfl (by repeat (first | exact Spot.here _ _ | apply Spot.there)) (by exact rfl) ?_; (first | exact want0 rfl | exact want1 rfl rfl rfl rfl)) | (refine ev_own1 S ?_ rfl o30 rfl (by repeat (first | exact Spot.here _ _ | apply Spot.there)) (by exact rfl) ?_; (first | exact want0 rfl | exact want1 rfl rfl rfl rfl)) | (refine ev_own1 S ?_ rfl o5 rfl (by repeat (first | exact Spot.here _ _ | apply Spot.there)) (by exact rfl) ?_; (first | exact want0 rfl | exact want1 rfl rfl rfl rfl)) | (go_at_call 70; have k_ := RS_tail1 HRi.out HXS.out (by assumption); (with_reducible refine (rvarSL S k_ hB 65535 hbr.out HV1.out HLN.out).mono ?_); clear k_; rintro z_ w_ ⟨A41, c41, rfl, hr_, S_⟩; have HR41 := Aside0.mk hr_; clear hr_; clear S; have S := S_; clear S_) | (go_at_call 70; have k_ := RS_tailn HRi.out HXS.out (by assumption); (with_reducible refine (rvarSL S k_ hB 65535 hbr.out HV1.out HLN.out).mono ?_); clear k_; rintro z_ w_ ⟨A41, c41, rfl, hr_, S_⟩; have HR41 := Aside0.mk hr_; clear hr_; clear S; have S := S_; clear S_) | (go_at_call 70; (with_reducible refine (rvarS S HR41.out hB 65535 hb1.out HV2.out).mono ?_); rintro z_ w_ ⟨A46, c46, rfl, hr_, S_⟩; have HR46 := Aside0.mk hr_; clear hr_; clear S; have S := S_; clear S_))
          refine retN (rs := [.cell 2 80, .tmp 3]) rfl rfl ?_ (Bk.vals S rfl (by repeat (first | exact Spot.here _ _ | apply Spot.there)) m80 (by exact rfl) (.tmp .nil)) ?_
          · simp
          exact ⟨none, 0, none, 0, rfl, RS.stopped _ _ _, Ow.nil _ _ _, Ow.nil_foot _ _ _, S.out.below⟩
        · have hby := hbi.out
          rw [hxi] at h1 hby
          simp only at h1
          have HB2 := Aside0.mk (show n - (i + 1) < n - i by omega)
          have HI1 := Aside0.mk (show wrap64 ((i : Int) + 1) = ((i + 1 : Nat) : Int) from w64 i (by omega))
          rcases hv1 : rVar r 0 65535 with ⟨y1, f1, n1⟩
          rw [hv1] at h1
          simp only at h1
          rcases hv2 : rVar y1 f1 65535 with ⟨y2, f2, n2⟩
          rw [hv2] at h1
          simp only at h1
          have hbr : Aside0 (∀ x ∈ r, 0 ≤ x ∧ x < 256) := ⟨fun x hx => hby x (List.mem_cons_of_mem _ hx)⟩
          have hb1 : Aside0 (∀ x ∈ y1, 0 ≤ x ∧ x < 256) := ⟨by have := rVar_byte (e := 0) (most := 65535) hbr.out; rw [hv1] at this; exact this⟩
          have hb2 : Aside0 (∀ x ∈ y2, 0 ≤ x ∧ x < 256) := ⟨by have := rVar_byte (e := f1) (most := 65535) hb1.out; rw [hv2] at this; exact this⟩
          have HV1 := Aside0.mk hv1
          have HV2 := Aside0.mk hv2
          obtain ⟨x, hx⟩ : ∃ x : S50, x = ⟨b, n1 % 65536, n2 % 65536⟩ := ⟨_, rfl⟩
          have x0 : b = x.f0 := by rw [hx]
          have x1 : IntKind.u16.wrap n1 = x.f1 := by rw [hx]; simp [IntKind.wrap, IntKind.bits, IntKind.signed]
          have x2 : IntKind.u16.wrap n2 = x.f2 := by rw [hx]; simp [IntKind.wrap, IntKind.bits, IntKind.signed]
          have HN : Aside0 (dEnd (acc ++ [x]) (dList (n - (i + 1)) y2 f2) = (ys, f, l)) := ⟨by
            rw [← h1, hx]
            unfold dEnd
            cases dList (n - (i + 1)) y2 f2 with
            | none => rfl
            | some q => simp⟩
          have HCAP := Aside0.mk (show (acc.length + 1) * 6 ≤ 140737488355328 by omega)
          have hal2 : (acc ++ [x]).length ≤ i + 1 := by rw [List.length_append]; simp; omega
          have hlx : xi.length = r.length + 1 := by rw [hxi]; rfl
          have hC := HRi.out
          obtain ⟨A'', c'', e1, g1, g2, g3⟩ := hC
          obtain ⟨hA, hcc⟩ : A' = A'' ∧ c' = c'' := by simp at e1; exact e1
          subst hA hcc
          obtain ⟨bb, oo, hA⟩ := C_spot g2 (by omega)
          subst hA
          have HX0 : Aside0 (w.cell? ⟨bb, oo, none⟩ = some (.int .u8 b)) := ⟨by
            have := cells_of g2 ⟨bb, oo, none⟩ rfl (by omega) 0 (.int .u8 b) (by rw [hxi]; rfl)
            simpa [Addr.add] using this⟩
          have HXS := Aside0.mk hxi
          have HLN := Aside0.mk (show r.length = xi.length - 1 by omega)
          have hz : ((xi.length : Int) == 0) = false := beq_eq_false_iff_ne.2 (by omega)
          have hz2 : decide ((0 : Int) < (xi.length : Int)) = true := decide_eq_true (by omega)
          have hp1 : 1 ≤ xi.length := by omega
          have hp0 : (0 : Int) < (xi.length : Int) := by omega
          clear hv1 hv2 h1 HI hx hxi hlx hby e1 g1 g2 g3
          go_wp2_with (first | (refine ev_load1 ?_ rfl o5 rfl (old_ S HX0.out) ?_; (first | exact want0 rfl | exact want1 rfl rfl rfl rfl)) | ((with_reducible refine gate_dst (N := 56) rfl ?_); refine ev_litS (d := k50) (e := 50) [x] (inner := [.int .u8 x.f0, .int .u16 x.f1, .int .u16 x.f2]) rfl S rfl 56 rfl (by first | (go_simp; done) | (go_simp; rfl) | (go_simp; rw [x1, x2])) (Reps.snoc (Reps.none _ _) (k50_mkM _ _ _ x) rfl) (by simp) ?_; intro A56 c56 w_ S_; clear S; have S := S_; clear S_) | (((with_reducible refine gate_builtin (b := .append) (xs := #[.tmp 49, .tmp 56]) rfl ?_); at_builtin; refine ev_rowsS (d := k50) (e := 50) (.tmp 49) (.tmp 56) 24 (.agg #[.int .u8 0, .int .u16 0, .int .u16 0]) 6 (n := acc.length) (xs := acc) (ys := [x]) rfl (fun W x cs hk => by obtain rfl := k50_open hk; exact k50_mkM _ _ _ _) (by decide) S rfl rfl Try.underlying24 info50 rfl (by decide) rfl rfl (by repeat (first | exact Spot.here _ _ | apply Spot.there)) rfl (Ow.reads (pAt S.out (Ow k50 50 A56 c56 [x]))) HCAP.out ?_; intro A57 c57 w_ S_; clear S; have S := S_; clear S_)) | ((with_reducible refine gate_dst (N := 1) rfl ?_); refine ev_boxs S ?_ 1 rfl rfl rfl ?_; (first | exact want0 rfl | exact want1 rfl rfl rfl rfl); intro g1 w1 S_; clear S; have S := S_; clear S_) | ((with_reducible refine gate_dst (N := 2) rfl ?_); refine ev_alloc #[.slice none 0 0, .int .i64 0] rfl S ?_ 2 rfl rfl z80 ?_; (first | exact want0 rfl | exact want1 rfl rfl rfl rfl); intro g2 w2 S_; clear S; have S := S_; clear S_) | (refine ev_owns (vs := [_, _]) S ?_ rfl m80 rfl (by repeat (first | exact Spot.here _ _ | apply Spot.there)) (by exact rfl) ?_; (first | exact want0 rfl | exact want1 rfl rfl rfl rfl)) | (refine ev_puts S ?_ rfl rfl s80 rfl rfl (by repeat (first | exact Spot.here _ _ | apply Spot.there)) rfl ?_ ?_ ?_; (first | exact want0 rfl | exact want1 rfl rfl rfl rfl); rfl; rfl; intro w_ S_; simp only [putAt, List.set_cons_zero, List.set_cons_succ] at S_; clear S; have S := S_; clear S_) | (refine ev_own1 S ?_ rfl o3 rfl (by repeat (first | exact Spot.here _ _ | apply Spot.there)) (by exact rfl) ?_; (first | exact want0 rfl | exact want1 rfl rfl rfl rfl)) | (refine ev_own1 S ?_ rfl o30 rfl (by repeat (first | exact Spot.here _ _ | apply Spot.there)) (by exact rfl) ?_; (first | exact want0 rfl | exact want1 rfl rfl rfl rfl)) | (refine ev_own1 S ?_ rfl o5 rfl (by repeat (first | exact Spot.here _ _ | apply Spot.there)) (by exact rfl) ?_; (first | exact want0 rfl | exact want1 rfl rfl rfl rfl)) | (go_at_call 70; have k_ := RS_tail1 HRi.out HXS.out (by assumption); (with_reducible refine (rvarSL S k_ hB 65535 hbr.out HV1.out HLN.out).mono ?_); clear k_; rintro z_ w_ ⟨A41, c41, rfl, hr_, S_⟩; have HR41 := Aside0.mk hr_; clear hr_; clear S; have S := S_; clear S_) | (go_at_call 70; have k_ := RS_tailn HRi.out HXS.out (by assumption); (with_reducible refine (rvarSL S k_ hB 65535 hbr.out HV1.out HLN.out).mono ?_); clear k_; rintro z_ w_ ⟨A41, c41, rfl, hr_, S_⟩; have HR41 := Aside0.mk hr_; clear hr_; clear S; have S := S_; clear S_) | (go_at_call 70; (with_reducible refine (rvarS S HR41.out hB 65535 hb1.out HV2.out).mono ?_); rintro z_ w_ ⟨A46, c46, rfl, hr_, S_⟩; have HR46 := Aside0.mk hr_; clear hr_; clear S; have S := S_; clear S_))
          all_goals
            refine ⟨⟨i + 1, A57, c57, acc ++ [x], A46, c46, y2, f2, by simp, by simp [HI1.out], hlt, hal2, HR46, hb2, HN, ⟨S.out.drop (by repeat (first | exact List.Sublist.refl _ | apply List.Sublist.cons_cons | apply List.Sublist.cons))⟩⟩, ?_⟩
            simpa [intOf, HI1.out] using HB2.out
      · have hez : (ei == 0) = false := by simpa using he
        have h1 := HI.out
        rw [show n - i = (n - (i + 1)) + 1 by omega] at h1
        unfold dList at h1
        rw [if_neg he] at h1
        simp only [dEnd, Option.map_some, Option.getD_some, List.append_nil, Prod.mk.injEq] at h1
        obtain ⟨rfl, rfl, rfl⟩ := h1
        clear HI
        go_wp2_with (first | (refine ev_load1 ?_ rfl o5 rfl (old_ S HX0.out) ?_; (first | exact want0 rfl | exact want1 rfl rfl rfl rfl)) | ((with_reducible refine gate_dst (N := 56) rfl ?_); refine ev_litS (d := k50) (e := 50) [x] (inner := [.int .u8 x.f0, .int .u16 x.f1, .int .u16 x.f2]) rfl S rfl 56 rfl (by first | (go_simp; done) | (go_simp; rfl) | (go_simp; rw [x1, x2])) (Reps.snoc (Reps.none _ _) (k50_mkM _ _ _ x) rfl) (by simp) ?_; intro A56 c56 w_ S_; clear S; have S := S_; clear S_) | (((with_reducible refine gate_builtin (b := .append) (xs := #[.tmp 49, .tmp 56]) rfl ?_); at_builtin; refine ev_rowsS (d := k50) (e := 50) (.tmp 49) (.tmp 56) 24 (.agg #[.int .u8 0, .int .u16 0, .int .u16 0]) 6 (n := acc.length) (xs := acc) (ys := [x]) rfl (fun W x cs hk => by obtain rfl := k50_open hk; exact k50_mkM _ _ _ _) (by decide) S rfl rfl Try.underlying24 info50 rfl (by decide) rfl rfl (by repeat (first | exact Spot.here _ _ | apply Spot.there)) rfl (Ow.reads (pAt S.out (Ow k50 50 A56 c56 [x]))) HCAP.out ?_; intro A57 c57 w_ S_; clear S; have S := S_; clear S_)) | ((with_reducible refine gate_dst (N := 1) rfl ?_); refine ev_boxs S ?_ 1 rfl rfl rfl ?_; (first | exact want0 rfl | exact want1 rfl rfl rfl rfl); intro g1 w1 S_; clear S; have S := S_; clear S_) | ((with_reducible refine gate_dst (N := 2) rfl ?_); refine ev_alloc #[.slice none 0 0, .int .i64 0] rfl S ?_ 2 rfl rfl z80 ?_; (first | exact want0 rfl | exact want1 rfl rfl rfl rfl); intro g2 w2 S_; clear S; have S := S_; clear S_) | (refine ev_owns (vs := [_, _]) S ?_ rfl m80 rfl (by repeat (first | exact Spot.here _ _ | apply Spot.there)) (by exact rfl) ?_; (first | exact want0 rfl | exact want1 rfl rfl rfl rfl)) | (refine ev_puts S ?_ rfl rfl s80 rfl rfl (by repeat (first | exact Spot.here _ _ | apply Spot.there)) rfl ?_ ?_ ?_; (first | exact want0 rfl | exact want1 rfl rfl rfl rfl); rfl; rfl; intro w_ S_; simp only [putAt, List.set_cons_zero, List.set_cons_succ] at S_; clear S; have S := S_; clear S_) | (refine ev_own1 S ?_ rfl o3 rfl (by repeat (first | exact Spot.here _ _ | apply Spot.there)) (by exact rfl) ?_; (first | exact want0 rfl | exact want1 rfl rfl rfl rfl)) | (refine ev_own1 S ?_ rfl o30 rfl (by repeat (first | exact Spot.here _ _ | apply Spot.there)) (by exact rfl) ?_; (first | exact want0 rfl | exact want1 rfl rfl rfl rfl)) | (refine ev_own1 S ?_ rfl o5 rfl (by repeat (first | exact Spot.here _ _ | apply Spot.there)) (by exact rfl) ?_; (first | exact want0 rfl | exact want1 rfl rfl rfl rfl)) | (go_at_call 70; have k_ := RS_tail1 HRi.out HXS.out (by assumption); (with_reducible refine (rvarSL S k_ hB 65535 hbr.out HV1.out HLN.out).mono ?_); clear k_; rintro z_ w_ ⟨A41, c41, rfl, hr_, S_⟩; have HR41 := Aside0.mk hr_; clear hr_; clear S; have S := S_; clear S_) | (go_at_call 70; have k_ := RS_tailn HRi.out HXS.out (by assumption); (with_reducible refine (rvarSL S k_ hB 65535 hbr.out HV1.out HLN.out).mono ?_); clear k_; rintro z_ w_ ⟨A41, c41, rfl, hr_, S_⟩; have HR41 := Aside0.mk hr_; clear hr_; clear S; have S := S_; clear S_) | (go_at_call 70; (with_reducible refine (rvarS S HR41.out hB 65535 hb1.out HV2.out).mono ?_); rintro z_ w_ ⟨A46, c46, rfl, hr_, S_⟩; have HR46 := Aside0.mk hr_; clear hr_; clear S; have S := S_; clear S_))
        refine retN (rs := [.cell 2 80, .tmp 3]) rfl rfl ?_ (Bk.vals S rfl (by repeat (first | exact Spot.here _ _ | apply Spot.there)) m80 (by exact rfl) (.tmp .nil)) ?_
        · simp
        exact ⟨_, _, _, _, rfl, HRi.out, pred_at S.out (by repeat (first | exact Spot.here _ _ | apply Spot.there)), new_at S.out (by repeat (first | exact Spot.here _ _ | apply Spot.there)), S.out.below⟩
    · obtain rfl : i = n := by omega
      have hd2 : decide ((i : Int) < (i : Int)) = false := decide_eq_false (by omega)
      have h1 := HI.out
      rw [Nat.sub_self] at h1
      unfold dList at h1
      simp only [dEnd, Option.map_some, Option.getD_some, List.append_nil, Prod.mk.injEq] at h1
      obtain ⟨rfl, rfl, rfl⟩ := h1
      clear HI
      go_wp2_with (first | (refine ev_load1 ?_ rfl o5 rfl (old_ S HX0.out) ?_; (first | exact want0 rfl | exact want1 rfl rfl rfl rfl)) | ((with_reducible refine gate_dst (N := 56) rfl ?_); refine ev_litS (d := k50) (e := 50) [x] (inner := [.int .u8 x.f0, .int .u16 x.f1, .int .u16 x.f2]) rfl S rfl 56 rfl (by first | (go_simp; done) | (go_simp; rfl) | (go_simp; rw [x1, x2])) (Reps.snoc (Reps.none _ _) (k50_mkM _ _ _ x) rfl) (by simp) ?_; intro A56 c56 w_ S_; clear S; have S := S_; clear S_) | (((with_reducible refine gate_builtin (b := .append) (xs := #[.tmp 49, .tmp 56]) rfl ?_); at_builtin; refine ev_rowsS (d := k50) (e := 50) (.tmp 49) (.tmp 56) 24 (.agg #[.int .u8 0, .int .u16 0, .int .u16 0]) 6 (n := acc.length) (xs := acc) (ys := [x]) rfl (fun W x cs hk => by obtain rfl := k50_open hk; exact k50_mkM _ _ _ _) (by decide) S rfl rfl Try.underlying24 info50 rfl (by decide) rfl rfl (by repeat (first | exact Spot.here _ _ | apply Spot.there)) rfl (Ow.reads (pAt S.out (Ow k50 50 A56 c56 [x]))) HCAP.out ?_; intro A57 c57 w_ S_; clear S; have S := S_; clear S_)) | ((with_reducible refine gate_dst (N := 1) rfl ?_); refine ev_boxs S ?_ 1 rfl rfl rfl ?_; (first | exact want0 rfl | exact want1 rfl rfl rfl rfl); intro g1 w1 S_; clear S; have S := S_; clear S_) | ((with_reducible refine gate_dst (N := 2) rfl ?_); refine ev_alloc #[.slice none 0 0, .int .i64 0] rfl S ?_ 2 rfl rfl z80 ?_; (first | exact want0 rfl | exact want1 rfl rfl rfl rfl); intro g2 w2 S_; clear S; have S := S_; clear S_) | (refine ev_owns (vs := [_, _]) S ?_ rfl m80 rfl (by repeat (first | exact Spot.here _ _ | apply Spot.there)) (by exact rfl) ?_; (first | exact want0 rfl | exact want1 rfl rfl rfl rfl)) | (refine ev_puts S ?_ rfl rfl s80 rfl rfl (by repeat (first | exact Spot.here _ _ | apply Spot.there)) rfl ?_ ?_ ?_; (first | exact want0 rfl | exact want1 rfl rfl rfl rfl); rfl; rfl; intro w_ S_; simp only [putAt, List.set_cons_zero, List.set_cons_succ] at S_; clear S; have S := S_; clear S_) | (refine ev_own1 S ?_ rfl o3 rfl (by repeat (first | exact Spot.here _ _ | apply Spot.there)) (by exact rfl) ?_; (first | exact want0 rfl | exact want1 rfl rfl rfl rfl)) | (refine ev_own1 S ?_ rfl o30 rfl (by repeat (first | exact Spot.here _ _ | apply Spot.there)) (by exact rfl) ?_; (first | exact want0 rfl | exact want1 rfl rfl rfl rfl)) | (refine ev_own1 S ?_ rfl o5 rfl (by repeat (first | exact Spot.here _ _ | apply Spot.there)) (by exact rfl) ?_; (first | exact want0 rfl | exact want1 rfl rfl rfl rfl)) | (go_at_call 70; have k_ := RS_tail1 HRi.out HXS.out (by assumption); (with_reducible refine (rvarSL S k_ hB 65535 hbr.out HV1.out HLN.out).mono ?_); clear k_; rintro z_ w_ ⟨A41, c41, rfl, hr_, S_⟩; have HR41 := Aside0.mk hr_; clear hr_; clear S; have S := S_; clear S_) | (go_at_call 70; have k_ := RS_tailn HRi.out HXS.out (by assumption); (with_reducible refine (rvarSL S k_ hB 65535 hbr.out HV1.out HLN.out).mono ?_); clear k_; rintro z_ w_ ⟨A41, c41, rfl, hr_, S_⟩; have HR41 := Aside0.mk hr_; clear hr_; clear S; have S := S_; clear S_) | (go_at_call 70; (with_reducible refine (rvarS S HR41.out hB 65535 hb1.out HV2.out).mono ?_); rintro z_ w_ ⟨A46, c46, rfl, hr_, S_⟩; have HR46 := Aside0.mk hr_; clear hr_; clear S; have S := S_; clear S_))
      refine retN (rs := [.cell 2 80, .tmp 3]) rfl rfl ?_ (Bk.vals S rfl (by repeat (first | exact Spot.here _ _ | apply Spot.there)) m80 (by exact rfl) (.tmp .nil)) ?_
      · simp
      exact ⟨_, _, _, _, rfl, HRi.out, pred_at S.out (by repeat (first | exact Spot.here _ _ | apply Spot.there)), new_at S.out (by repeat (first | exact Spot.here _ _ | apply Spot.there)), S.out.below⟩

theorem rList_byte : ∀ (n : Nat) (xs : List Int) (e : Int), (∀ x ∈ xs, 0 ≤ x ∧ x < 256) → ∀ x ∈ (rList one39 n xs e).1, 0 ≤ x ∧ x < 256
  | 0, xs, e, h => h
  | n + 1, xs, e, h => by
    unfold rList
    split
    · exact rList_byte n _ _ (rList_bytes 0 xs e h)
    · exact h
theorem rWords_bytes (xs : List Int) (e most : Int) (h : ∀ x ∈ xs, 0 ≤ x ∧ x < 256) : ∀ x ∈ (rWords xs e most).1, 0 ≤ x ∧ x < 256 := by
  unfold rWords
  split
  · intro x hx; cases hx
  · exact wordsK_byte (rVar_byte h) _
theorem rList_len {α : Type} (one : List Int → Int → List Int × Int × α) : ∀ (n : Nat) (xs : List Int) (e : Int), (rList one n xs e).2.2.length ≤ n
  | 0, xs, e => Nat.le_refl _
  | n + 1, xs, e => by
    unfold rList
    split
    · simp only [List.length_cons]; have := rList_len one n (one xs e).1 (one xs e).2.1; omega
    · simp
/-- What the document reads of a module, part by part. -/
structure Dd (xs : List Int) (y0 : List Int) (e0 : Int) (a1 : List Int) (b1 : Int) (n1 : Nat) (y1 : List Int) (e1 : Int) (a2 : List Int) (b2 : Int) (n2 : Nat) (y2 : List Int) (e2 : Int) (y3 : List Int) (e3 : Int) (y4 : List Int) (e4 : Int) (a5 : List Int) (b5 : Int) (n5 : Nat) (y5 : List Int) (e5 : Int) (m : Mo) : Prop where
  h0 : ((rText xs 0 96).1, (rText xs 0 96).2.1, strOfNums (rText xs 0 96).2.2) = (y0, e0, m.nm)
  h1 : rVar y0 e0 8 = (a1, b1, (n1 : Int))
  l1 : rList one39 n1 a1 b1 = (y1, e1, m.ex)
  h2 : rVar y1 e1 16 = (a2, b2, (n2 : Int))
  l2 : rList one39 n2 a2 b2 = (y2, e2, m.im)
  h3 : rWords y2 e2 512 = (y3, e3, m.co)
  h4 : rWords y3 e3 128 = (y4, e4, m.da)
  h5 : rVar y4 e4 256 = (a5, b5, (n5 : Int))
  l5 : dEnd [] (dList n5 a5 b5) = (y5, e5, m.re)
  k2 : y2.length ≤ 16384
  k3 : y3.length ≤ 16384
  n1_ : n1 ≤ 1000
  n2_ : n2 ≤ 1000
  n5_ : n5 ≤ 1000
  b0 : ∀ x ∈ y0, 0 ≤ x ∧ x < 256
  b1_ : ∀ x ∈ y1, 0 ≤ x ∧ x < 256
  b2_ : ∀ x ∈ y2, 0 ≤ x ∧ x < 256
  b3_ : ∀ x ∈ y3, 0 ≤ x ∧ x < 256
  b4_ : ∀ x ∈ y4, 0 ≤ x ∧ x < 256
  few : m.Few
  wf : m.Wf
theorem vr_most (xs : List Int) (most : Int) (h0 : 0 ≤ most) (hm : most < 18446744073709551616) : ∀ (k i : Nat) (nv : Int), (vr xs most k i nv).2.2 ≤ most
  | 0, i, nv => h0
  | k + 1, i, nv => by
    unfold vr
    split
    · exact h0
    · split
      · exact vr_most xs most h0 hm k _ _
      · split
        · split
          · exact h0
          · rename_i h
            rw [wraps_u64 most h0 (by omega)] at h
            exact Int.not_lt.1 h
        · exact h0
theorem rVar_most (xs : List Int) (e most : Int) (h0 : 0 ≤ most) (hm : most < 18446744073709551616) : (rVar xs e most).2.2 ≤ most := by
  unfold rVar
  split
  · have := vr_most xs most h0 hm 5 0 0
    rcases h : vr xs most 5 0 0 with ⟨j, e', r⟩
    rw [h] at this
    cases j <;> exact this
  · exact h0
theorem dList_len : ∀ (n : Nat) (xs : List Int) (e : Int) q, dList n xs e = some q → q.2.2.length ≤ n
  | 0, xs, e, q, h => by
    unfold dList at h
    obtain rfl := Option.some.inj h
    exact Nat.le_refl _
  | n + 1, xs, e, q, h => by
    unfold dList at h
    split at h
    · cases xs with
      | nil => cases h
      | cons b r =>
        simp only [Option.map_eq_some_iff] at h
        obtain ⟨q', h1, rfl⟩ := h
        have := dList_len n _ _ q' h1
        simp only [List.length_cons]; omega
    · obtain rfl := Option.some.inj h
      simp
theorem dList_wf : ∀ (n : Nat) (xs : List Int) (e : Int) q, (∀ x ∈ xs, 0 ≤ x ∧ x < 256) → dList n xs e = some q → ∀ r ∈ q.2.2, 0 ≤ r.f0 ∧ 0 ≤ r.f1 ∧ r.f1 < 65536 ∧ 0 ≤ r.f2 ∧ r.f2 < 65536
  | 0, xs, e, q, _, h => by
    unfold dList at h
    obtain rfl := Option.some.inj h
    intro r hr; cases hr
  | n + 1, xs, e, q, hb, h => by
    unfold dList at h
    split at h
    · cases xs with
      | nil => cases h
      | cons b r =>
        simp only [Option.map_eq_some_iff] at h
        obtain ⟨q', h1, rfl⟩ := h
        have hr : ∀ x ∈ r, 0 ≤ x ∧ x < 256 := fun x hx => hb x (List.mem_cons_of_mem _ hx)
        have ih := dList_wf n _ _ q' (rVar_byte (rVar_byte hr)) h1
        intro y hy
        rcases List.mem_cons.1 hy with rfl | hy
        · have := hb b List.mem_cons_self
          simp only
          omega
        · exact ih y hy
    · obtain rfl := Option.some.inj h
      intro r hr; cases hr
theorem rWords_len (xs : List Int) (e : Int) (most : Nat) (h0 : most < 4294967296) (_ : True) : (rWords xs e (most : Int)).2.2.length ≤ most := by
  unfold rWords
  split
  · simp
  · rw [wordsK_len, atM_self most h0]
    have := rVar_most xs e (most : Int) (by omega) (by omega)
    omega
theorem dd_any (xs : List Int) (hx : xs.length ≤ 16384) (hb : ∀ x ∈ xs, 0 ≤ x ∧ x < 256) : ∃ y0 e0 a1 b1 n1 y1 e1 a2 b2 n2 y2 e2 y3 e3 y4 e4 a5 b5 n5 y5 e5 m, Dd xs y0 e0 a1 b1 n1 y1 e1 a2 b2 n2 y2 e2 y3 e3 y4 e4 a5 b5 n5 y5 e5 m := by
  have nat : ∀ (xs : List Int) (e most : Int), rVar xs e most = ((rVar xs e most).1, (rVar xs e most).2.1, (((rVar xs e most).2.2.toNat : Nat) : Int)) := fun xs e most => by rw [Int.toNat_of_nonneg (rVar_bd xs e most).1]
  rcases h0 : one39 xs 0 with ⟨y0, e0, nm⟩
  have s0 : y0.length ≤ xs.length := by have := one_shr xs 0; rw [h0] at this; exact this
  have c0 : ∀ x ∈ y0, 0 ≤ x ∧ x < 256 := by have := rList_bytes 0 xs 0 hb; rw [h0] at this; exact this
  have h1 := nat y0 e0 8
  have s1 := rVar_len y0 e0 8
  have m1 := rVar_most y0 e0 8 (by decide) (by decide)
  have p1 := rVar_byte (e := e0) (most := 8) c0
  rcases l1 : rList one39 (rVar y0 e0 8).2.2.toNat (rVar y0 e0 8).1 (rVar y0 e0 8).2.1 with ⟨y1, e1, ex⟩
  have s1' : y1.length ≤ (rVar y0 e0 8).1.length := by have := rList_shr one39 one_shr (rVar y0 e0 8).2.2.toNat (rVar y0 e0 8).1 (rVar y0 e0 8).2.1; rw [l1] at this; exact this
  have c1 : ∀ x ∈ y1, 0 ≤ x ∧ x < 256 := by have := rList_byte (rVar y0 e0 8).2.2.toNat (rVar y0 e0 8).1 (rVar y0 e0 8).2.1 p1; rw [l1] at this; exact this
  have q1 : ex.length ≤ (rVar y0 e0 8).2.2.toNat := by have := rList_len one39 (rVar y0 e0 8).2.2.toNat (rVar y0 e0 8).1 (rVar y0 e0 8).2.1; rw [l1] at this; exact this
  have h2 := nat y1 e1 16
  have s2 := rVar_len y1 e1 16
  have m2 := rVar_most y1 e1 16 (by decide) (by decide)
  have p2 := rVar_byte (e := e1) (most := 16) c1
  rcases l2 : rList one39 (rVar y1 e1 16).2.2.toNat (rVar y1 e1 16).1 (rVar y1 e1 16).2.1 with ⟨y2, e2, im⟩
  have s2' : y2.length ≤ (rVar y1 e1 16).1.length := by have := rList_shr one39 one_shr (rVar y1 e1 16).2.2.toNat (rVar y1 e1 16).1 (rVar y1 e1 16).2.1; rw [l2] at this; exact this
  have c2 : ∀ x ∈ y2, 0 ≤ x ∧ x < 256 := by have := rList_byte (rVar y1 e1 16).2.2.toNat (rVar y1 e1 16).1 (rVar y1 e1 16).2.1 p2; rw [l2] at this; exact this
  have q2 : im.length ≤ (rVar y1 e1 16).2.2.toNat := by have := rList_len one39 (rVar y1 e1 16).2.2.toNat (rVar y1 e1 16).1 (rVar y1 e1 16).2.1; rw [l2] at this; exact this
  rcases h3 : rWords y2 e2 512 with ⟨y3, e3, co⟩
  have s3 : y3.length ≤ y2.length := by have := rWords_shr y2 e2 512; rw [h3] at this; exact this
  have c3 : ∀ x ∈ y3, 0 ≤ x ∧ x < 256 := by have := rWords_bytes y2 e2 512 c2; rw [h3] at this; exact this
  have w3 : ∀ x ∈ co, 0 ≤ x ∧ x < 4294967296 := by have := rWords_wf y2 e2 512; rw [h3] at this; exact this
  have q3 : co.length ≤ 512 := by have := rWords_len y2 e2 512 (by decide) trivial; rw [show ((512 : Nat) : Int) = 512 from rfl, h3] at this; exact this
  rcases h4 : rWords y3 e3 128 with ⟨y4, e4, da⟩
  have c4 : ∀ x ∈ y4, 0 ≤ x ∧ x < 256 := by have := rWords_bytes y3 e3 128 c3; rw [h4] at this; exact this
  have w4 : ∀ x ∈ da, 0 ≤ x ∧ x < 4294967296 := by have := rWords_wf y3 e3 128; rw [h4] at this; exact this
  have q4 : da.length ≤ 128 := by have := rWords_len y3 e3 128 (by decide) trivial; rw [show ((128 : Nat) : Int) = 128 from rfl, h4] at this; exact this
  have h5 := nat y4 e4 256
  have m5 := rVar_most y4 e4 256 (by decide) (by decide)
  have p5 := rVar_byte (e := e4) (most := 256) c4
  rcases l5 : dEnd [] (dList (rVar y4 e4 256).2.2.toNat (rVar y4 e4 256).1 (rVar y4 e4 256).2.1) with ⟨y5, e5, re⟩
  have r5 : re.length ≤ 2000 ∧ ∀ r ∈ re, 0 ≤ r.f0 ∧ 0 ≤ r.f1 ∧ r.f1 < 65536 ∧ 0 ≤ r.f2 ∧ r.f2 < 65536 := by
    unfold dEnd at l5
    cases hq : dList (rVar y4 e4 256).2.2.toNat (rVar y4 e4 256).1 (rVar y4 e4 256).2.1 with
    | none =>
      rw [hq] at l5
      simp only [Option.map_none, Option.getD_none, Prod.mk.injEq] at l5
      obtain ⟨_, _, rfl⟩ := l5
      exact ⟨by simp, fun r hr => by cases hr⟩
    | some q =>
      have z1 := dList_len _ _ _ q hq
      have z2 := dList_wf _ _ _ q p5 hq
      rw [hq] at l5
      simp only [Option.map_some, Option.getD_some, List.nil_append, Prod.mk.injEq] at l5
      obtain ⟨_, _, rfl⟩ := l5
      exact ⟨by omega, z2⟩
  exact ⟨y0, e0, _, _, _, y1, e1, _, _, _, y2, e2, y3, e3, y4, e4, _, _, _, y5, e5, ⟨nm, ex, im, co, da, re⟩, h0, h1, l1, h2, l2, h3, h4, h5, l5, by omega, by omega, by omega, by omega, by omega, c0, c1, c2, c3, c4, ⟨by dsimp only; omega, by dsimp only; omega, by dsimp only; omega, by dsimp only; omega, r5.1⟩, ⟨w3, w4, r5.2⟩⟩

section
variable {B : Nat} {w W : World} {L : List Asn} {A : Option Addr} {c : Nat} {xs ys a1 : List Int} {e f b1 : Int} {n : Nat}
theorem rtextSL (S : Aside0 (St w.heap.size w W L)) {k : Nat} (hR : RS B w (.agg #[.slice A xs.length c, .int .i64 e]) xs e) (hB : B ≤ w.heap.size) (most : Int) (hbd : ∀ x ∈ xs, 0 ≤ x ∧ x < 256) {s : ByteArray} (hv : ((rText xs e most).1, (rText xs e most).2.1, strOfNums (rText xs e most).2.2) = (ys, f, s)) (hk : xs.length = k) :
    Calls Try.prog 49 #[.agg #[.slice A k c, .int .i64 e], .int .i64 most] W fun z W' => ∃ A' c', z = .returned (.tuple #[.agg #[.slice A' ys.length c', .int .i64 f], .string s]) ∧ RS B w (.agg #[.slice A' ys.length c', .int .i64 f]) ys f ∧ Aside0 (St w.heap.size w W' L) := by
  subst hk
  exact rtextS S hR hB most hbd hv
theorem gettextsS (S : Aside0 (St w.heap.size w W L)) (hR : RS B w (.agg #[.slice A xs.length c, .int .i64 e]) xs e) (hB : B ≤ w.heap.size) (most : Int) (hbd : ∀ x ∈ xs, 0 ≤ x ∧ x < 256) {l : List ByteArray} (hv : rVar xs e most = (a1, b1, (n : Int))) (hl : rList one39 n a1 b1 = (ys, f, l)) (hn : n ≤ 1000) :
    Calls Try.prog 50 #[.agg #[.slice A xs.length c, .int .i64 e], .int .u32 most] W fun z W' => ∃ A' c' A2 c2, z = .returned (.tuple #[.agg #[.slice A' ys.length c', .int .i64 f], .slice A2 l.length c2]) ∧ RS B w (.agg #[.slice A' ys.length c', .int .i64 f]) ys f ∧ Aside0 (St w.heap.size w W' (Ow Kd.string 9 A2 c2 l :: L)) := by
  have hb := S.out.below.mono hB
  refine (gettexts A c xs e W (hR.under hb) (Nat.le_trans hB S.out.below.size) hbd most hv hl hn).mono ?_
  rintro z W' ⟨A', c', A2, c2, rfl, hr, hO, hN, hbl⟩
  exact ⟨A', c', A2, c2, rfl, RS.back hr hb, ⟨St.add S.out hbl _ hO hN⟩⟩
theorem getrelocsS (S : Aside0 (St w.heap.size w W L)) (hR : RS B w (.agg #[.slice A xs.length c, .int .i64 e]) xs e) (hB : B ≤ w.heap.size) (hbd : ∀ x ∈ xs, 0 ≤ x ∧ x < 256) {l : List S50} (hv : rVar xs e 256 = (a1, b1, (n : Int))) (hl : dEnd [] (dList n a1 b1) = (ys, f, l)) (hn : n ≤ 1000) :
    Calls Try.prog 52 #[.agg #[.slice A xs.length c, .int .i64 e]] W fun z W' => ∃ A' c' A2 c2, z = .returned (.tuple #[.agg #[.slice A' ys.length c', .int .i64 f], .slice A2 l.length c2]) ∧ RS B w (.agg #[.slice A' ys.length c', .int .i64 f]) ys f ∧ Aside0 (St w.heap.size w W' (Ow k50 50 A2 c2 l :: L)) := by
  have hb := S.out.below.mono hB
  refine (getrelocs A c xs e W (hR.under hb) (Nat.le_trans hB S.out.below.size) hbd hv hl hn).mono ?_
  rintro z W' ⟨A', c', A2, c2, rfl, hr, hO, hN, hbl⟩
  exact ⟨A', c', A2, c2, rfl, RS.back hr hb, ⟨St.add S.out hbl _ hO hN⟩⟩
theorem RS_drop4 {b o : Nat} (hC : Kd.C (Kd.int .u8) w (some ⟨b, o, none⟩) xs.length xs) (hc : xs.length ≤ c) (h4 : 4 ≤ xs.length) (hn : ¬ c = 4) : RS w.heap.size w (.agg #[.slice (some ⟨b, o + 4, none⟩) (xs.drop 4).length (c - 4), .int .i64 0]) (xs.drop 4) 0 := by
  have h5 := Kd.C_drop (c := c) (m := 4) hC h4 hc
  rw [if_neg hn] at h5
  have e4 : (Option.map (fun y : Addr => y.add (4 * (Kd.int .u8).sz)) (some ⟨b, o, none⟩)) = some ⟨b, o + 4, none⟩ := by
    simp only [Option.map_some, Option.some.injEq]
    unfold Addr.add; simp [show (Kd.int .u8).sz = 1 from rfl]
  rw [e4] at h5
  refine ⟨_, _, rfl, by rw [List.length_drop]; omega, h5, fun ad ha hn => ?_⟩
  obtain rfl := Option.some.inj ha
  exact Kd.C_lt h5 hn (by decide)
theorem RS_drop4' (hc : xs.length ≤ c) (hn : c = 4) : RS w.heap.size w (.agg #[.slice A (xs.drop 4).length 0, .int .i64 0]) (xs.drop 4) 0 := by
  have e : xs.drop 4 = [] := List.drop_eq_nil_of_le (by omega)
  rw [e]
  exact ⟨A, 0, rfl, by simp, ⟨rfl, by simp, fun hn => absurd hn (by simp)⟩, fun ad _ hn => absurd hn (by simp)⟩
end
/-- What the document's Get hands back. -/
def RGot (w : World) (xs : List Int) (m : Mo) (e5 f : Int) (en : List Int) (z : Ending) (w' : World) : Prop :=
  if e5 = 0 ∧ f = 0 ∧ en = xs then ∃ A1 c1 A2 c2 A3 c3 A4 c4 A5 c5, z = .returned (.tuple #[.agg #[.string m.nm, .slice A1 m.ex.length c1, .slice A2 m.im.length c2, .slice A3 m.co.length c3, .slice A4 m.da.length c4, .slice A5 m.re.length c5], .int .i64 0]) ∧ (MoA m A1 c1 A2 c2 A3 c3 A4 c4 A5 c5).pred w' ∧ (∀ k, (MoA m A1 c1 A2 c2 A3 c3 A4 c4 A5 c5).foot k → w.heap.size ≤ k)
  else z = .returned (.tuple #[.agg #[.string ⟨#[]⟩, .slice none 0 0, .slice none 0 0, .slice none 0 0, .slice none 0 0, .slice none 0 0], .int .i64 4])
set_option maxRecDepth 100000 in
set_option maxHeartbeats 32000000 in
theorem rget_go (A : Option Addr) (c : Nat) (xs : List Int) (w : World) (hC : Kd.C (Kd.int .u8) w A xs.length xs) (hc : xs.length ≤ c) (h4 : 4 ≤ xs.length) (h5 : xs.length ≤ 16384) (hbd : ∀ x ∈ xs, 0 ≤ x ∧ x < 256) {y0 : List Int} {e0 : Int} {a1 : List Int} {b1 : Int} {n1 : Nat} {y1 : List Int} {e1 : Int} {a2 : List Int} {b2 : Int} {n2 : Nat} {y2 : List Int} {e2 : Int} {y3 : List Int} {e3 : Int} {y4 : List Int} {e4 : Int} {a5 : List Int} {b5 : Int} {n5 : Nat} {y5 : List Int} {e5 : Int} {m : Mo} (hd : Dd (xs.drop 4) y0 e0 a1 b1 n1 y1 e1 a2 b2 n2 y2 e2 y3 e3 y4 e4 a5 b5 n5 y5 e5 m) (f : Int) (hf : m.chk = f) (en : List Int) (hen : m.enc = en) :
    Calls Try.prog 18 #[.slice A xs.length c] w fun z w' => RGot w xs m e5 f en z w' ∧ Below w.heap.size w w' := by
  have HF := Aside0.mk hf
  have HEN := Aside0.mk hen
  have HC := Aside0.mk hC
  have HD := Aside0.mk hd
  have hbx := Aside0.mk hbd
  have hb4 : Aside0 (∀ x ∈ xs.drop 4, 0 ≤ x ∧ x < 256) := ⟨fun x hx => hbd x (List.mem_of_mem_drop hx)⟩
  have S := Aside0.mk (St.start w)
  have few := hd.few
  have d1 : decide ((xs.length : Int) > 16384) = false := decide_eq_false (by omega)
  have d2 : decide ((xs.length : Int) < 4) = false := decide_eq_false (by omega)
  have hl4 : (4 : Int) ≤ (xs.length : Int) := by omega
  have HLN := Aside0.mk (show (xs.drop 4).length = xs.length - 4 from List.length_drop)
  have hB : w.heap.size ≤ w.heap.size := Nat.le_refl _
  obtain ⟨bb, oo, hA⟩ := C_spot hC (by omega)
  subst hA
  have hwf := hd.wf
  obtain ⟨sx, hsx⟩ : ∃ s, strOfNums xs = s := ⟨_, rfl⟩
  obtain ⟨sn, hsn⟩ : ∃ s, strOfNums en = s := ⟨_, rfl⟩
  have HSX := Aside0.mk hsx
  have HSN := Aside0.mk hsn
  clear hC hd hf hen hbd
  cases hne : (f != 0) with
  | true =>
    clear hsx hsn
    cases hq : (e5 != 0) with
    | true =>
      go_enter Try.func18, Try.ntmps18
      go_wp2_with (first | (refine ev_str (xs := en) (s := sn) ?_ 69 rfl rfl rfl rfl (Ow.reads (pAt S.out (Ow (Kd.int .u8) 5 A57 c57 en))) HSN.out ?_; (first | exact want0 rfl | exact want1 rfl rfl rfl rfl)) | (refine ev_str (xs := en) (s := sx) ?_ 69 rfl rfl rfl rfl (Ow.reads (pAt S.out (Ow (Kd.int .u8) 5 A57 c57 en))) HSN.out ?_; (first | exact want0 rfl | exact want1 rfl rfl rfl rfl)) | (refine ev_str (xs := xs) (s := sx) ?_ 71 rfl rfl rfl rfl (Kd.C_below HC.out S.out.below) HSX.out ?_; (first | exact want0 rfl | exact want1 rfl rfl rfl rfl)) | (refine ev_str (xs := xs) (s := sn) ?_ 71 rfl rfl rfl rfl (Kd.C_below HC.out S.out.below) HSX.out ?_; (first | exact want0 rfl | exact want1 rfl rfl rfl rfl)) | ((with_reducible refine gate_dst (N := 2) rfl ?_); refine ev_alloc #[.string ⟨#[]⟩, .slice none 0 0, .slice none 0 0, .slice none 0 0, .slice none 0 0, .slice none 0 0] rfl S ?_ 2 rfl rfl z26 ?_; (first | exact want0 rfl | exact want1 rfl rfl rfl rfl); intro g2 w2 S_; clear S; have S := S_; clear S_) | (refine ev_puts S ?_ rfl rfl s26 rfl rfl (by repeat (first | exact Spot.here _ _ | apply Spot.there)) rfl ?_ ?_ ?_; (first | exact want0 rfl | exact want1 rfl rfl rfl rfl); rfl; rfl; intro w_ S_; simp only [putAt, List.set_cons_zero, List.set_cons_succ] at S_; clear S; have S := S_; clear S_) | ((with_reducible refine gate_dst (N := 4) rfl ?_); refine ev_alloc #[.string ⟨#[]⟩, .slice none 0 0, .slice none 0 0, .slice none 0 0, .slice none 0 0, .slice none 0 0] rfl S ?_ 4 rfl rfl z26 ?_; (first | exact want0 rfl | exact want1 rfl rfl rfl rfl); intro g4 w4 S_; clear S; have S := S_; clear S_) | ((with_reducible refine gate_dst (N := 5) rfl ?_); refine ev_alloc #[.slice none 0 0, .int .i64 0] rfl S ?_ 5 rfl rfl z80 ?_; (first | exact want0 rfl | exact want1 rfl rfl rfl rfl); intro g5 w5 S_; clear S; have S := S_; clear S_) | (refine ev_puts S ?_ rfl rfl s80 rfl rfl (by repeat (first | exact Spot.here _ _ | apply Spot.there)) rfl ?_ ?_ ?_; (first | exact want0 rfl | exact want1 rfl rfl rfl rfl); rfl; rfl; intro w_ S_; simp only [putAt, List.set_cons_zero, List.set_cons_succ] at S_; clear S; have S := S_; clear S_) | (refine ev_owns (vs := [_, _]) S ?_ rfl m80 rfl (by repeat (first | exact Spot.here _ _ | apply Spot.there)) (by exact rfl) ?_; (first | exact want0 rfl | exact want1 rfl rfl rfl rfl)) | (refine ev_put1 S ?_ rfl rfl s9 rfl rfl (by repeat (first | exact Spot.here _ _ | apply Spot.there)) ?_ ?_ ?_; (first | exact want0 rfl | exact want1 rfl rfl rfl rfl); rfl; rfl; intro w_ S_; simp only [putAt, List.set_cons_zero, List.set_cons_succ] at S_; clear S; have S := S_; clear S_) | (refine ev_put1 S ?_ rfl rfl s22 rfl rfl (by repeat (first | exact Spot.here _ _ | apply Spot.there)) ?_ ?_ ?_; (first | exact want0 rfl | exact want1 rfl rfl rfl rfl); rfl; rfl; intro w_ S_; simp only [putAt, List.set_cons_zero, List.set_cons_succ] at S_; clear S; have S := S_; clear S_) | (refine ev_put1 S ?_ rfl rfl s23 rfl rfl (by repeat (first | exact Spot.here _ _ | apply Spot.there)) ?_ ?_ ?_; (first | exact want0 rfl | exact want1 rfl rfl rfl rfl); rfl; rfl; intro w_ S_; simp only [putAt, List.set_cons_zero, List.set_cons_succ] at S_; clear S; have S := S_; clear S_) | (refine ev_put1 S ?_ rfl rfl s24 rfl rfl (by repeat (first | exact Spot.here _ _ | apply Spot.there)) ?_ ?_ ?_; (first | exact want0 rfl | exact want1 rfl rfl rfl rfl); rfl; rfl; intro w_ S_; simp only [putAt, List.set_cons_zero, List.set_cons_succ] at S_; clear S; have S := S_; clear S_) | (refine ev_owns (vs := [_, _, _, _, _, _]) S ?_ rfl m26 rfl (by repeat (first | exact Spot.here _ _ | apply Spot.there)) (by exact rfl) ?_; (first | exact want0 rfl | exact want1 rfl rfl rfl rfl)) | (refine ev_own1 S ?_ rfl o3 rfl (by repeat (first | exact Spot.here _ _ | apply Spot.there)) (by exact rfl) ?_; (first | exact want0 rfl | exact want1 rfl rfl rfl rfl)) | (go_at_call 49; have k_ := RS_drop4' (w := w) (A := some ⟨bb, oo, none⟩) hc (by assumption); (with_reducible refine (rtextSL S k_ hB 96 hb4.out HD.out.h0 HLN.out).mono ?_); clear k_; rintro z_ w_ ⟨A21, c21, rfl, hr_, S_⟩; have HR21 := Aside0.mk hr_; clear hr_; clear S; have S := S_; clear S_) | (go_at_call 49; have k_ := RS_drop4 HC.out hc h4 (by assumption); (with_reducible refine (rtextSL S k_ hB 96 hb4.out HD.out.h0 HLN.out).mono ?_); clear k_; rintro z_ w_ ⟨A21, c21, rfl, hr_, S_⟩; have HR21 := Aside0.mk hr_; clear hr_; clear S; have S := S_; clear S_) | (go_at_call 50; (with_reducible refine (gettextsS S HR21.out hB 8 HD.out.b0 HD.out.h1 HD.out.l1 HD.out.n1_).mono ?_); rintro z_ w_ ⟨A27r, c27r, A27, c27, rfl, hr_, S_⟩; have HR27 := Aside0.mk hr_; clear hr_; clear S; have S := S_; clear S_) | (go_at_call 50; (with_reducible refine (gettextsS S HR27.out hB 16 HD.out.b1_ HD.out.h2 HD.out.l2 HD.out.n2_).mono ?_); rintro z_ w_ ⟨A33r, c33r, A33, c33, rfl, hr_, S_⟩; have HR33 := Aside0.mk hr_; clear hr_; clear S; have S := S_; clear S_) | (go_at_call 51; (with_reducible refine (rwordsS S HR33.out hB 512 HD.out.b2_ HD.out.k2 HD.out.h3).mono ?_); rintro z_ w_ ⟨A39r, c39r, A39, c39, rfl, hr_, S_⟩; have HR39 := Aside0.mk hr_; clear hr_; clear S; have S := S_; clear S_) | (go_at_call 51; (with_reducible refine (rwordsS S HR39.out hB 128 HD.out.b3_ HD.out.k3 HD.out.h4).mono ?_); rintro z_ w_ ⟨A45r, c45r, A45, c45, rfl, hr_, S_⟩; have HR45 := Aside0.mk hr_; clear hr_; clear S; have S := S_; clear S_) | (go_at_call 52; (with_reducible refine (getrelocsS S HR45.out hB HD.out.b4_ HD.out.h5 HD.out.l5 HD.out.n5_).mono ?_); rintro z_ w_ ⟨A51r, c51r, A51, c51, rfl, hr_, S_⟩; have HR51 := Aside0.mk hr_; clear hr_; clear S; have S := S_; clear S_) | (go_at_call 13; have k_ : Md _ m.nm A27 c27 m.ex A33 c33 m.im A39 c39 m.co A45 c45 m.da A51 c51 m.re := ⟨Ow.reads (pAt S.out (Ow Kd.string 9 A27 c27 m.ex)), Ow.cap (pAt S.out (Ow Kd.string 9 A27 c27 m.ex)), Ow.reads (pAt S.out (Ow Kd.string 9 A33 c33 m.im)), Ow.cap (pAt S.out (Ow Kd.string 9 A33 c33 m.im)), Ow.reads (pAt S.out (Ow (Kd.int .u32) 43 A39 c39 m.co)), Ow.cap (pAt S.out (Ow (Kd.int .u32) 43 A39 c39 m.co)), Ow.reads (pAt S.out (Ow (Kd.int .u32) 43 A45 c45 m.da)), Ow.cap (pAt S.out (Ow (Kd.int .u32) 43 A45 c45 m.da)), Ow.reads (pAt S.out (Ow k50 50 A51 c51 m.re)), Ow.cap (pAt S.out (Ow k50 50 A51 c51 m.re))⟩; (with_reducible refine (rput_no m A27 c27 A33 c33 A39 c39 A45 c45 A51 c51 _ k_ few f HF.out hne).mono ?_); clear k_; rintro z_ w_ ⟨rfl, hb_⟩; have hb2_ := hb_; have S_ := Aside0.mk (S.out.keep hb2_); clear hb2_ hb_; clear S; have S := S_; clear S_))
      all_goals
        refine retN (rs := [.cell 2 26, .tmp 3]) rfl rfl ?_ (Bk.vals S rfl (by repeat (first | exact Spot.here _ _ | apply Spot.there)) m26 (by exact rfl) (.tmp .nil)) ?_
        · simp
        refine ⟨?_, S.out.below⟩
        unfold RGot
        rw [if_neg (fun h => by simp [h.1, h.2.1] at hq hne)]
        rfl
    | false =>
      go_enter Try.func18, Try.ntmps18
      go_wp2_with (first | (refine ev_str (xs := en) (s := sn) ?_ 69 rfl rfl rfl rfl (Ow.reads (pAt S.out (Ow (Kd.int .u8) 5 A57 c57 en))) HSN.out ?_; (first | exact want0 rfl | exact want1 rfl rfl rfl rfl)) | (refine ev_str (xs := en) (s := sx) ?_ 69 rfl rfl rfl rfl (Ow.reads (pAt S.out (Ow (Kd.int .u8) 5 A57 c57 en))) HSN.out ?_; (first | exact want0 rfl | exact want1 rfl rfl rfl rfl)) | (refine ev_str (xs := xs) (s := sx) ?_ 71 rfl rfl rfl rfl (Kd.C_below HC.out S.out.below) HSX.out ?_; (first | exact want0 rfl | exact want1 rfl rfl rfl rfl)) | (refine ev_str (xs := xs) (s := sn) ?_ 71 rfl rfl rfl rfl (Kd.C_below HC.out S.out.below) HSX.out ?_; (first | exact want0 rfl | exact want1 rfl rfl rfl rfl)) | ((with_reducible refine gate_dst (N := 2) rfl ?_); refine ev_alloc #[.string ⟨#[]⟩, .slice none 0 0, .slice none 0 0, .slice none 0 0, .slice none 0 0, .slice none 0 0] rfl S ?_ 2 rfl rfl z26 ?_; (first | exact want0 rfl | exact want1 rfl rfl rfl rfl); intro g2 w2 S_; clear S; have S := S_; clear S_) | (refine ev_puts S ?_ rfl rfl s26 rfl rfl (by repeat (first | exact Spot.here _ _ | apply Spot.there)) rfl ?_ ?_ ?_; (first | exact want0 rfl | exact want1 rfl rfl rfl rfl); rfl; rfl; intro w_ S_; simp only [putAt, List.set_cons_zero, List.set_cons_succ] at S_; clear S; have S := S_; clear S_) | ((with_reducible refine gate_dst (N := 4) rfl ?_); refine ev_alloc #[.string ⟨#[]⟩, .slice none 0 0, .slice none 0 0, .slice none 0 0, .slice none 0 0, .slice none 0 0] rfl S ?_ 4 rfl rfl z26 ?_; (first | exact want0 rfl | exact want1 rfl rfl rfl rfl); intro g4 w4 S_; clear S; have S := S_; clear S_) | ((with_reducible refine gate_dst (N := 5) rfl ?_); refine ev_alloc #[.slice none 0 0, .int .i64 0] rfl S ?_ 5 rfl rfl z80 ?_; (first | exact want0 rfl | exact want1 rfl rfl rfl rfl); intro g5 w5 S_; clear S; have S := S_; clear S_) | (refine ev_puts S ?_ rfl rfl s80 rfl rfl (by repeat (first | exact Spot.here _ _ | apply Spot.there)) rfl ?_ ?_ ?_; (first | exact want0 rfl | exact want1 rfl rfl rfl rfl); rfl; rfl; intro w_ S_; simp only [putAt, List.set_cons_zero, List.set_cons_succ] at S_; clear S; have S := S_; clear S_) | (refine ev_owns (vs := [_, _]) S ?_ rfl m80 rfl (by repeat (first | exact Spot.here _ _ | apply Spot.there)) (by exact rfl) ?_; (first | exact want0 rfl | exact want1 rfl rfl rfl rfl)) | (refine ev_put1 S ?_ rfl rfl s9 rfl rfl (by repeat (first | exact Spot.here _ _ | apply Spot.there)) ?_ ?_ ?_; (first | exact want0 rfl | exact want1 rfl rfl rfl rfl); rfl; rfl; intro w_ S_; simp only [putAt, List.set_cons_zero, List.set_cons_succ] at S_; clear S; have S := S_; clear S_) | (refine ev_put1 S ?_ rfl rfl s22 rfl rfl (by repeat (first | exact Spot.here _ _ | apply Spot.there)) ?_ ?_ ?_; (first | exact want0 rfl | exact want1 rfl rfl rfl rfl); rfl; rfl; intro w_ S_; simp only [putAt, List.set_cons_zero, List.set_cons_succ] at S_; clear S; have S := S_; clear S_) | (refine ev_put1 S ?_ rfl rfl s23 rfl rfl (by repeat (first | exact Spot.here _ _ | apply Spot.there)) ?_ ?_ ?_; (first | exact want0 rfl | exact want1 rfl rfl rfl rfl); rfl; rfl; intro w_ S_; simp only [putAt, List.set_cons_zero, List.set_cons_succ] at S_; clear S; have S := S_; clear S_) | (refine ev_put1 S ?_ rfl rfl s24 rfl rfl (by repeat (first | exact Spot.here _ _ | apply Spot.there)) ?_ ?_ ?_; (first | exact want0 rfl | exact want1 rfl rfl rfl rfl); rfl; rfl; intro w_ S_; simp only [putAt, List.set_cons_zero, List.set_cons_succ] at S_; clear S; have S := S_; clear S_) | (refine ev_owns (vs := [_, _, _, _, _, _]) S ?_ rfl m26 rfl (by repeat (first | exact Spot.here _ _ | apply Spot.there)) (by exact rfl) ?_; (first | exact want0 rfl | exact want1 rfl rfl rfl rfl)) | (refine ev_own1 S ?_ rfl o3 rfl (by repeat (first | exact Spot.here _ _ | apply Spot.there)) (by exact rfl) ?_; (first | exact want0 rfl | exact want1 rfl rfl rfl rfl)) | (go_at_call 49; have k_ := RS_drop4' (w := w) (A := some ⟨bb, oo, none⟩) hc (by assumption); (with_reducible refine (rtextSL S k_ hB 96 hb4.out HD.out.h0 HLN.out).mono ?_); clear k_; rintro z_ w_ ⟨A21, c21, rfl, hr_, S_⟩; have HR21 := Aside0.mk hr_; clear hr_; clear S; have S := S_; clear S_) | (go_at_call 49; have k_ := RS_drop4 HC.out hc h4 (by assumption); (with_reducible refine (rtextSL S k_ hB 96 hb4.out HD.out.h0 HLN.out).mono ?_); clear k_; rintro z_ w_ ⟨A21, c21, rfl, hr_, S_⟩; have HR21 := Aside0.mk hr_; clear hr_; clear S; have S := S_; clear S_) | (go_at_call 50; (with_reducible refine (gettextsS S HR21.out hB 8 HD.out.b0 HD.out.h1 HD.out.l1 HD.out.n1_).mono ?_); rintro z_ w_ ⟨A27r, c27r, A27, c27, rfl, hr_, S_⟩; have HR27 := Aside0.mk hr_; clear hr_; clear S; have S := S_; clear S_) | (go_at_call 50; (with_reducible refine (gettextsS S HR27.out hB 16 HD.out.b1_ HD.out.h2 HD.out.l2 HD.out.n2_).mono ?_); rintro z_ w_ ⟨A33r, c33r, A33, c33, rfl, hr_, S_⟩; have HR33 := Aside0.mk hr_; clear hr_; clear S; have S := S_; clear S_) | (go_at_call 51; (with_reducible refine (rwordsS S HR33.out hB 512 HD.out.b2_ HD.out.k2 HD.out.h3).mono ?_); rintro z_ w_ ⟨A39r, c39r, A39, c39, rfl, hr_, S_⟩; have HR39 := Aside0.mk hr_; clear hr_; clear S; have S := S_; clear S_) | (go_at_call 51; (with_reducible refine (rwordsS S HR39.out hB 128 HD.out.b3_ HD.out.k3 HD.out.h4).mono ?_); rintro z_ w_ ⟨A45r, c45r, A45, c45, rfl, hr_, S_⟩; have HR45 := Aside0.mk hr_; clear hr_; clear S; have S := S_; clear S_) | (go_at_call 52; (with_reducible refine (getrelocsS S HR45.out hB HD.out.b4_ HD.out.h5 HD.out.l5 HD.out.n5_).mono ?_); rintro z_ w_ ⟨A51r, c51r, A51, c51, rfl, hr_, S_⟩; have HR51 := Aside0.mk hr_; clear hr_; clear S; have S := S_; clear S_) | (go_at_call 13; have k_ : Md _ m.nm A27 c27 m.ex A33 c33 m.im A39 c39 m.co A45 c45 m.da A51 c51 m.re := ⟨Ow.reads (pAt S.out (Ow Kd.string 9 A27 c27 m.ex)), Ow.cap (pAt S.out (Ow Kd.string 9 A27 c27 m.ex)), Ow.reads (pAt S.out (Ow Kd.string 9 A33 c33 m.im)), Ow.cap (pAt S.out (Ow Kd.string 9 A33 c33 m.im)), Ow.reads (pAt S.out (Ow (Kd.int .u32) 43 A39 c39 m.co)), Ow.cap (pAt S.out (Ow (Kd.int .u32) 43 A39 c39 m.co)), Ow.reads (pAt S.out (Ow (Kd.int .u32) 43 A45 c45 m.da)), Ow.cap (pAt S.out (Ow (Kd.int .u32) 43 A45 c45 m.da)), Ow.reads (pAt S.out (Ow k50 50 A51 c51 m.re)), Ow.cap (pAt S.out (Ow k50 50 A51 c51 m.re))⟩; (with_reducible refine (rput_no m A27 c27 A33 c33 A39 c39 A45 c45 A51 c51 _ k_ few f HF.out hne).mono ?_); clear k_; rintro z_ w_ ⟨rfl, hb_⟩; have hb2_ := hb_; have S_ := Aside0.mk (S.out.keep hb2_); clear hb2_ hb_; clear S; have S := S_; clear S_))
      all_goals
        refine retN (rs := [.cell 2 26, .tmp 3]) rfl rfl ?_ (Bk.vals S rfl (by repeat (first | exact Spot.here _ _ | apply Spot.there)) m26 (by exact rfl) (.tmp .nil)) ?_
        · simp
        refine ⟨?_, S.out.below⟩
        unfold RGot
        rw [if_neg (fun h => by simp [h.1, h.2.1] at hq hne)]
        rfl
  | false =>
    obtain rfl : f = 0 := by simpa using hne
    cases hq : (e5 != 0) with
    | true =>
      clear hsx hsn
      go_enter Try.func18, Try.ntmps18
      go_wp2_with (first | (refine ev_str (xs := en) (s := sn) ?_ 69 rfl rfl rfl rfl (Ow.reads (pAt S.out (Ow (Kd.int .u8) 5 A57 c57 en))) HSN.out ?_; (first | exact want0 rfl | exact want1 rfl rfl rfl rfl)) | (refine ev_str (xs := en) (s := sx) ?_ 69 rfl rfl rfl rfl (Ow.reads (pAt S.out (Ow (Kd.int .u8) 5 A57 c57 en))) HSN.out ?_; (first | exact want0 rfl | exact want1 rfl rfl rfl rfl)) | (refine ev_str (xs := xs) (s := sx) ?_ 71 rfl rfl rfl rfl (Kd.C_below HC.out S.out.below) HSX.out ?_; (first | exact want0 rfl | exact want1 rfl rfl rfl rfl)) | (refine ev_str (xs := xs) (s := sn) ?_ 71 rfl rfl rfl rfl (Kd.C_below HC.out S.out.below) HSX.out ?_; (first | exact want0 rfl | exact want1 rfl rfl rfl rfl)) | ((with_reducible refine gate_dst (N := 2) rfl ?_); refine ev_alloc #[.string ⟨#[]⟩, .slice none 0 0, .slice none 0 0, .slice none 0 0, .slice none 0 0, .slice none 0 0] rfl S ?_ 2 rfl rfl z26 ?_; (first | exact want0 rfl | exact want1 rfl rfl rfl rfl); intro g2 w2 S_; clear S; have S := S_; clear S_) | (refine ev_puts S ?_ rfl rfl s26 rfl rfl (by repeat (first | exact Spot.here _ _ | apply Spot.there)) rfl ?_ ?_ ?_; (first | exact want0 rfl | exact want1 rfl rfl rfl rfl); rfl; rfl; intro w_ S_; simp only [putAt, List.set_cons_zero, List.set_cons_succ] at S_; clear S; have S := S_; clear S_) | ((with_reducible refine gate_dst (N := 4) rfl ?_); refine ev_alloc #[.string ⟨#[]⟩, .slice none 0 0, .slice none 0 0, .slice none 0 0, .slice none 0 0, .slice none 0 0] rfl S ?_ 4 rfl rfl z26 ?_; (first | exact want0 rfl | exact want1 rfl rfl rfl rfl); intro g4 w4 S_; clear S; have S := S_; clear S_) | ((with_reducible refine gate_dst (N := 5) rfl ?_); refine ev_alloc #[.slice none 0 0, .int .i64 0] rfl S ?_ 5 rfl rfl z80 ?_; (first | exact want0 rfl | exact want1 rfl rfl rfl rfl); intro g5 w5 S_; clear S; have S := S_; clear S_) | (refine ev_puts S ?_ rfl rfl s80 rfl rfl (by repeat (first | exact Spot.here _ _ | apply Spot.there)) rfl ?_ ?_ ?_; (first | exact want0 rfl | exact want1 rfl rfl rfl rfl); rfl; rfl; intro w_ S_; simp only [putAt, List.set_cons_zero, List.set_cons_succ] at S_; clear S; have S := S_; clear S_) | (refine ev_owns (vs := [_, _]) S ?_ rfl m80 rfl (by repeat (first | exact Spot.here _ _ | apply Spot.there)) (by exact rfl) ?_; (first | exact want0 rfl | exact want1 rfl rfl rfl rfl)) | (refine ev_put1 S ?_ rfl rfl s9 rfl rfl (by repeat (first | exact Spot.here _ _ | apply Spot.there)) ?_ ?_ ?_; (first | exact want0 rfl | exact want1 rfl rfl rfl rfl); rfl; rfl; intro w_ S_; simp only [putAt, List.set_cons_zero, List.set_cons_succ] at S_; clear S; have S := S_; clear S_) | (refine ev_put1 S ?_ rfl rfl s22 rfl rfl (by repeat (first | exact Spot.here _ _ | apply Spot.there)) ?_ ?_ ?_; (first | exact want0 rfl | exact want1 rfl rfl rfl rfl); rfl; rfl; intro w_ S_; simp only [putAt, List.set_cons_zero, List.set_cons_succ] at S_; clear S; have S := S_; clear S_) | (refine ev_put1 S ?_ rfl rfl s23 rfl rfl (by repeat (first | exact Spot.here _ _ | apply Spot.there)) ?_ ?_ ?_; (first | exact want0 rfl | exact want1 rfl rfl rfl rfl); rfl; rfl; intro w_ S_; simp only [putAt, List.set_cons_zero, List.set_cons_succ] at S_; clear S; have S := S_; clear S_) | (refine ev_put1 S ?_ rfl rfl s24 rfl rfl (by repeat (first | exact Spot.here _ _ | apply Spot.there)) ?_ ?_ ?_; (first | exact want0 rfl | exact want1 rfl rfl rfl rfl); rfl; rfl; intro w_ S_; simp only [putAt, List.set_cons_zero, List.set_cons_succ] at S_; clear S; have S := S_; clear S_) | (refine ev_owns (vs := [_, _, _, _, _, _]) S ?_ rfl m26 rfl (by repeat (first | exact Spot.here _ _ | apply Spot.there)) (by exact rfl) ?_; (first | exact want0 rfl | exact want1 rfl rfl rfl rfl)) | (refine ev_own1 S ?_ rfl o3 rfl (by repeat (first | exact Spot.here _ _ | apply Spot.there)) (by exact rfl) ?_; (first | exact want0 rfl | exact want1 rfl rfl rfl rfl)) | (go_at_call 49; have k_ := RS_drop4' (w := w) (A := some ⟨bb, oo, none⟩) hc (by assumption); (with_reducible refine (rtextSL S k_ hB 96 hb4.out HD.out.h0 HLN.out).mono ?_); clear k_; rintro z_ w_ ⟨A21, c21, rfl, hr_, S_⟩; have HR21 := Aside0.mk hr_; clear hr_; clear S; have S := S_; clear S_) | (go_at_call 49; have k_ := RS_drop4 HC.out hc h4 (by assumption); (with_reducible refine (rtextSL S k_ hB 96 hb4.out HD.out.h0 HLN.out).mono ?_); clear k_; rintro z_ w_ ⟨A21, c21, rfl, hr_, S_⟩; have HR21 := Aside0.mk hr_; clear hr_; clear S; have S := S_; clear S_) | (go_at_call 50; (with_reducible refine (gettextsS S HR21.out hB 8 HD.out.b0 HD.out.h1 HD.out.l1 HD.out.n1_).mono ?_); rintro z_ w_ ⟨A27r, c27r, A27, c27, rfl, hr_, S_⟩; have HR27 := Aside0.mk hr_; clear hr_; clear S; have S := S_; clear S_) | (go_at_call 50; (with_reducible refine (gettextsS S HR27.out hB 16 HD.out.b1_ HD.out.h2 HD.out.l2 HD.out.n2_).mono ?_); rintro z_ w_ ⟨A33r, c33r, A33, c33, rfl, hr_, S_⟩; have HR33 := Aside0.mk hr_; clear hr_; clear S; have S := S_; clear S_) | (go_at_call 51; (with_reducible refine (rwordsS S HR33.out hB 512 HD.out.b2_ HD.out.k2 HD.out.h3).mono ?_); rintro z_ w_ ⟨A39r, c39r, A39, c39, rfl, hr_, S_⟩; have HR39 := Aside0.mk hr_; clear hr_; clear S; have S := S_; clear S_) | (go_at_call 51; (with_reducible refine (rwordsS S HR39.out hB 128 HD.out.b3_ HD.out.k3 HD.out.h4).mono ?_); rintro z_ w_ ⟨A45r, c45r, A45, c45, rfl, hr_, S_⟩; have HR45 := Aside0.mk hr_; clear hr_; clear S; have S := S_; clear S_) | (go_at_call 52; (with_reducible refine (getrelocsS S HR45.out hB HD.out.b4_ HD.out.h5 HD.out.l5 HD.out.n5_).mono ?_); rintro z_ w_ ⟨A51r, c51r, A51, c51, rfl, hr_, S_⟩; have HR51 := Aside0.mk hr_; clear hr_; clear S; have S := S_; clear S_) | (go_at_call 13; have k_ : Md _ m.nm A27 c27 m.ex A33 c33 m.im A39 c39 m.co A45 c45 m.da A51 c51 m.re := ⟨Ow.reads (pAt S.out (Ow Kd.string 9 A27 c27 m.ex)), Ow.cap (pAt S.out (Ow Kd.string 9 A27 c27 m.ex)), Ow.reads (pAt S.out (Ow Kd.string 9 A33 c33 m.im)), Ow.cap (pAt S.out (Ow Kd.string 9 A33 c33 m.im)), Ow.reads (pAt S.out (Ow (Kd.int .u32) 43 A39 c39 m.co)), Ow.cap (pAt S.out (Ow (Kd.int .u32) 43 A39 c39 m.co)), Ow.reads (pAt S.out (Ow (Kd.int .u32) 43 A45 c45 m.da)), Ow.cap (pAt S.out (Ow (Kd.int .u32) 43 A45 c45 m.da)), Ow.reads (pAt S.out (Ow k50 50 A51 c51 m.re)), Ow.cap (pAt S.out (Ow k50 50 A51 c51 m.re))⟩; (with_reducible refine (rput_ok m A27 c27 A33 c33 A39 c39 A45 c45 A51 c51 _ k_ HF.out en HEN.out).mono ?_); clear k_; rintro z_ w_ ⟨A57, c57, rfl, h1_, h2_, hb_⟩; have S_ := Aside0.mk (St.add S.out hb_ _ h1_ h2_); clear h1_ h2_ hb_; clear S; have S := S_; clear S_))
      all_goals
        refine retN (rs := [.cell 2 26, .tmp 3]) rfl rfl ?_ (Bk.vals S rfl (by repeat (first | exact Spot.here _ _ | apply Spot.there)) m26 (by exact rfl) (.tmp .nil)) ?_
        · simp
        refine ⟨?_, S.out.below⟩
        unfold RGot
        rw [if_neg (fun h => by simp [h.1] at hq)]
        rfl
    | false =>
      by_cases hx : en = xs
      · have hss : sn = sx := by rw [← hsn, ← hsx, hx]
        subst hss
        have HX := Aside0.mk hx
        clear hsx hsn hx
        go_enter Try.func18, Try.ntmps18
        go_wp2_with (first | (refine ev_str (xs := en) (s := sn) ?_ 69 rfl rfl rfl rfl (Ow.reads (pAt S.out (Ow (Kd.int .u8) 5 A57 c57 en))) HSN.out ?_; (first | exact want0 rfl | exact want1 rfl rfl rfl rfl)) | (refine ev_str (xs := en) (s := sx) ?_ 69 rfl rfl rfl rfl (Ow.reads (pAt S.out (Ow (Kd.int .u8) 5 A57 c57 en))) HSN.out ?_; (first | exact want0 rfl | exact want1 rfl rfl rfl rfl)) | (refine ev_str (xs := xs) (s := sx) ?_ 71 rfl rfl rfl rfl (Kd.C_below HC.out S.out.below) HSX.out ?_; (first | exact want0 rfl | exact want1 rfl rfl rfl rfl)) | (refine ev_str (xs := xs) (s := sn) ?_ 71 rfl rfl rfl rfl (Kd.C_below HC.out S.out.below) HSX.out ?_; (first | exact want0 rfl | exact want1 rfl rfl rfl rfl)) | ((with_reducible refine gate_dst (N := 2) rfl ?_); refine ev_alloc #[.string ⟨#[]⟩, .slice none 0 0, .slice none 0 0, .slice none 0 0, .slice none 0 0, .slice none 0 0] rfl S ?_ 2 rfl rfl z26 ?_; (first | exact want0 rfl | exact want1 rfl rfl rfl rfl); intro g2 w2 S_; clear S; have S := S_; clear S_) | (refine ev_puts S ?_ rfl rfl s26 rfl rfl (by repeat (first | exact Spot.here _ _ | apply Spot.there)) rfl ?_ ?_ ?_; (first | exact want0 rfl | exact want1 rfl rfl rfl rfl); rfl; rfl; intro w_ S_; simp only [putAt, List.set_cons_zero, List.set_cons_succ] at S_; clear S; have S := S_; clear S_) | ((with_reducible refine gate_dst (N := 4) rfl ?_); refine ev_alloc #[.string ⟨#[]⟩, .slice none 0 0, .slice none 0 0, .slice none 0 0, .slice none 0 0, .slice none 0 0] rfl S ?_ 4 rfl rfl z26 ?_; (first | exact want0 rfl | exact want1 rfl rfl rfl rfl); intro g4 w4 S_; clear S; have S := S_; clear S_) | ((with_reducible refine gate_dst (N := 5) rfl ?_); refine ev_alloc #[.slice none 0 0, .int .i64 0] rfl S ?_ 5 rfl rfl z80 ?_; (first | exact want0 rfl | exact want1 rfl rfl rfl rfl); intro g5 w5 S_; clear S; have S := S_; clear S_) | (refine ev_puts S ?_ rfl rfl s80 rfl rfl (by repeat (first | exact Spot.here _ _ | apply Spot.there)) rfl ?_ ?_ ?_; (first | exact want0 rfl | exact want1 rfl rfl rfl rfl); rfl; rfl; intro w_ S_; simp only [putAt, List.set_cons_zero, List.set_cons_succ] at S_; clear S; have S := S_; clear S_) | (refine ev_owns (vs := [_, _]) S ?_ rfl m80 rfl (by repeat (first | exact Spot.here _ _ | apply Spot.there)) (by exact rfl) ?_; (first | exact want0 rfl | exact want1 rfl rfl rfl rfl)) | (refine ev_put1 S ?_ rfl rfl s9 rfl rfl (by repeat (first | exact Spot.here _ _ | apply Spot.there)) ?_ ?_ ?_; (first | exact want0 rfl | exact want1 rfl rfl rfl rfl); rfl; rfl; intro w_ S_; simp only [putAt, List.set_cons_zero, List.set_cons_succ] at S_; clear S; have S := S_; clear S_) | (refine ev_put1 S ?_ rfl rfl s22 rfl rfl (by repeat (first | exact Spot.here _ _ | apply Spot.there)) ?_ ?_ ?_; (first | exact want0 rfl | exact want1 rfl rfl rfl rfl); rfl; rfl; intro w_ S_; simp only [putAt, List.set_cons_zero, List.set_cons_succ] at S_; clear S; have S := S_; clear S_) | (refine ev_put1 S ?_ rfl rfl s23 rfl rfl (by repeat (first | exact Spot.here _ _ | apply Spot.there)) ?_ ?_ ?_; (first | exact want0 rfl | exact want1 rfl rfl rfl rfl); rfl; rfl; intro w_ S_; simp only [putAt, List.set_cons_zero, List.set_cons_succ] at S_; clear S; have S := S_; clear S_) | (refine ev_put1 S ?_ rfl rfl s24 rfl rfl (by repeat (first | exact Spot.here _ _ | apply Spot.there)) ?_ ?_ ?_; (first | exact want0 rfl | exact want1 rfl rfl rfl rfl); rfl; rfl; intro w_ S_; simp only [putAt, List.set_cons_zero, List.set_cons_succ] at S_; clear S; have S := S_; clear S_) | (refine ev_owns (vs := [_, _, _, _, _, _]) S ?_ rfl m26 rfl (by repeat (first | exact Spot.here _ _ | apply Spot.there)) (by exact rfl) ?_; (first | exact want0 rfl | exact want1 rfl rfl rfl rfl)) | (refine ev_own1 S ?_ rfl o3 rfl (by repeat (first | exact Spot.here _ _ | apply Spot.there)) (by exact rfl) ?_; (first | exact want0 rfl | exact want1 rfl rfl rfl rfl)) | (go_at_call 49; have k_ := RS_drop4' (w := w) (A := some ⟨bb, oo, none⟩) hc (by assumption); (with_reducible refine (rtextSL S k_ hB 96 hb4.out HD.out.h0 HLN.out).mono ?_); clear k_; rintro z_ w_ ⟨A21, c21, rfl, hr_, S_⟩; have HR21 := Aside0.mk hr_; clear hr_; clear S; have S := S_; clear S_) | (go_at_call 49; have k_ := RS_drop4 HC.out hc h4 (by assumption); (with_reducible refine (rtextSL S k_ hB 96 hb4.out HD.out.h0 HLN.out).mono ?_); clear k_; rintro z_ w_ ⟨A21, c21, rfl, hr_, S_⟩; have HR21 := Aside0.mk hr_; clear hr_; clear S; have S := S_; clear S_) | (go_at_call 50; (with_reducible refine (gettextsS S HR21.out hB 8 HD.out.b0 HD.out.h1 HD.out.l1 HD.out.n1_).mono ?_); rintro z_ w_ ⟨A27r, c27r, A27, c27, rfl, hr_, S_⟩; have HR27 := Aside0.mk hr_; clear hr_; clear S; have S := S_; clear S_) | (go_at_call 50; (with_reducible refine (gettextsS S HR27.out hB 16 HD.out.b1_ HD.out.h2 HD.out.l2 HD.out.n2_).mono ?_); rintro z_ w_ ⟨A33r, c33r, A33, c33, rfl, hr_, S_⟩; have HR33 := Aside0.mk hr_; clear hr_; clear S; have S := S_; clear S_) | (go_at_call 51; (with_reducible refine (rwordsS S HR33.out hB 512 HD.out.b2_ HD.out.k2 HD.out.h3).mono ?_); rintro z_ w_ ⟨A39r, c39r, A39, c39, rfl, hr_, S_⟩; have HR39 := Aside0.mk hr_; clear hr_; clear S; have S := S_; clear S_) | (go_at_call 51; (with_reducible refine (rwordsS S HR39.out hB 128 HD.out.b3_ HD.out.k3 HD.out.h4).mono ?_); rintro z_ w_ ⟨A45r, c45r, A45, c45, rfl, hr_, S_⟩; have HR45 := Aside0.mk hr_; clear hr_; clear S; have S := S_; clear S_) | (go_at_call 52; (with_reducible refine (getrelocsS S HR45.out hB HD.out.b4_ HD.out.h5 HD.out.l5 HD.out.n5_).mono ?_); rintro z_ w_ ⟨A51r, c51r, A51, c51, rfl, hr_, S_⟩; have HR51 := Aside0.mk hr_; clear hr_; clear S; have S := S_; clear S_) | (go_at_call 13; have k_ : Md _ m.nm A27 c27 m.ex A33 c33 m.im A39 c39 m.co A45 c45 m.da A51 c51 m.re := ⟨Ow.reads (pAt S.out (Ow Kd.string 9 A27 c27 m.ex)), Ow.cap (pAt S.out (Ow Kd.string 9 A27 c27 m.ex)), Ow.reads (pAt S.out (Ow Kd.string 9 A33 c33 m.im)), Ow.cap (pAt S.out (Ow Kd.string 9 A33 c33 m.im)), Ow.reads (pAt S.out (Ow (Kd.int .u32) 43 A39 c39 m.co)), Ow.cap (pAt S.out (Ow (Kd.int .u32) 43 A39 c39 m.co)), Ow.reads (pAt S.out (Ow (Kd.int .u32) 43 A45 c45 m.da)), Ow.cap (pAt S.out (Ow (Kd.int .u32) 43 A45 c45 m.da)), Ow.reads (pAt S.out (Ow k50 50 A51 c51 m.re)), Ow.cap (pAt S.out (Ow k50 50 A51 c51 m.re))⟩; (with_reducible refine (rput_ok m A27 c27 A33 c33 A39 c39 A45 c45 A51 c51 _ k_ HF.out en HEN.out).mono ?_); clear k_; rintro z_ w_ ⟨A57, c57, rfl, h1_, h2_, hb_⟩; have S_ := Aside0.mk (St.add S.out hb_ _ h1_ h2_); clear h1_ h2_ hb_; clear S; have S := S_; clear S_))
        all_goals
          refine retN (rs := [.cell 2 26, .tmp 3]) rfl rfl ?_ (Bk.vals S rfl (by repeat (first | exact Spot.here _ _ | apply Spot.there)) m26 (by exact rfl) (.tmp .nil)) ?_
          · simp
          refine ⟨?_, S.out.below⟩
          unfold RGot
          rw [if_pos ⟨by simpa using hq, rfl, HX.out⟩]
          exact ⟨_, _, _, _, _, _, _, _, _, _, rfl, MoA.mk (pAt S.out (Ow Kd.string 9 A27 c27 m.ex)) (pAt S.out (Ow Kd.string 9 A33 c33 m.im)) (pAt S.out (Ow (Kd.int .u32) 43 A39 c39 m.co)) (pAt S.out (Ow (Kd.int .u32) 43 A45 c45 m.da)) (pAt S.out (Ow k50 50 A51 c51 m.re)), MoA.new (new_at S.out (a := Ow Kd.string 9 A27 c27 m.ex) (by repeat (first | exact Spot.here _ _ | apply Spot.there))) (new_at S.out (a := Ow Kd.string 9 A33 c33 m.im) (by repeat (first | exact Spot.here _ _ | apply Spot.there))) (new_at S.out (a := Ow (Kd.int .u32) 43 A39 c39 m.co) (by repeat (first | exact Spot.here _ _ | apply Spot.there))) (new_at S.out (a := Ow (Kd.int .u32) 43 A45 c45 m.da) (by repeat (first | exact Spot.here _ _ | apply Spot.there))) (new_at S.out (a := Ow k50 50 A51 c51 m.re) (by repeat (first | exact Spot.here _ _ | apply Spot.there)))⟩
      · have hok := chk_ok HF.out
        have hne2 : ¬ sn = sx := fun h => hx (by
          rw [← hsn, ← hsx] at h
          exact str_inj (by rw [← HEN.out]; exact tail_byte hok (rb_of hok hwf.re)) hbx.out h)
        have hs3 : (sn.toList == sx.toList) = false := by
          apply beq_eq_false_iff_ne.2
          intro h
          apply hne2
          apply ByteArray.ext
          apply Array.ext'
          rw [ByteArray.toList_eq, ByteArray.toList_eq] at h
          exact h
        clear hsx hsn hok hne2
        go_enter Try.func18, Try.ntmps18
        go_wp2_with (first | (refine ev_str (xs := en) (s := sn) ?_ 69 rfl rfl rfl rfl (Ow.reads (pAt S.out (Ow (Kd.int .u8) 5 A57 c57 en))) HSN.out ?_; (first | exact want0 rfl | exact want1 rfl rfl rfl rfl)) | (refine ev_str (xs := en) (s := sx) ?_ 69 rfl rfl rfl rfl (Ow.reads (pAt S.out (Ow (Kd.int .u8) 5 A57 c57 en))) HSN.out ?_; (first | exact want0 rfl | exact want1 rfl rfl rfl rfl)) | (refine ev_str (xs := xs) (s := sx) ?_ 71 rfl rfl rfl rfl (Kd.C_below HC.out S.out.below) HSX.out ?_; (first | exact want0 rfl | exact want1 rfl rfl rfl rfl)) | (refine ev_str (xs := xs) (s := sn) ?_ 71 rfl rfl rfl rfl (Kd.C_below HC.out S.out.below) HSX.out ?_; (first | exact want0 rfl | exact want1 rfl rfl rfl rfl)) | ((with_reducible refine gate_dst (N := 2) rfl ?_); refine ev_alloc #[.string ⟨#[]⟩, .slice none 0 0, .slice none 0 0, .slice none 0 0, .slice none 0 0, .slice none 0 0] rfl S ?_ 2 rfl rfl z26 ?_; (first | exact want0 rfl | exact want1 rfl rfl rfl rfl); intro g2 w2 S_; clear S; have S := S_; clear S_) | (refine ev_puts S ?_ rfl rfl s26 rfl rfl (by repeat (first | exact Spot.here _ _ | apply Spot.there)) rfl ?_ ?_ ?_; (first | exact want0 rfl | exact want1 rfl rfl rfl rfl); rfl; rfl; intro w_ S_; simp only [putAt, List.set_cons_zero, List.set_cons_succ] at S_; clear S; have S := S_; clear S_) | ((with_reducible refine gate_dst (N := 4) rfl ?_); refine ev_alloc #[.string ⟨#[]⟩, .slice none 0 0, .slice none 0 0, .slice none 0 0, .slice none 0 0, .slice none 0 0] rfl S ?_ 4 rfl rfl z26 ?_; (first | exact want0 rfl | exact want1 rfl rfl rfl rfl); intro g4 w4 S_; clear S; have S := S_; clear S_) | ((with_reducible refine gate_dst (N := 5) rfl ?_); refine ev_alloc #[.slice none 0 0, .int .i64 0] rfl S ?_ 5 rfl rfl z80 ?_; (first | exact want0 rfl | exact want1 rfl rfl rfl rfl); intro g5 w5 S_; clear S; have S := S_; clear S_) | (refine ev_puts S ?_ rfl rfl s80 rfl rfl (by repeat (first | exact Spot.here _ _ | apply Spot.there)) rfl ?_ ?_ ?_; (first | exact want0 rfl | exact want1 rfl rfl rfl rfl); rfl; rfl; intro w_ S_; simp only [putAt, List.set_cons_zero, List.set_cons_succ] at S_; clear S; have S := S_; clear S_) | (refine ev_owns (vs := [_, _]) S ?_ rfl m80 rfl (by repeat (first | exact Spot.here _ _ | apply Spot.there)) (by exact rfl) ?_; (first | exact want0 rfl | exact want1 rfl rfl rfl rfl)) | (refine ev_put1 S ?_ rfl rfl s9 rfl rfl (by repeat (first | exact Spot.here _ _ | apply Spot.there)) ?_ ?_ ?_; (first | exact want0 rfl | exact want1 rfl rfl rfl rfl); rfl; rfl; intro w_ S_; simp only [putAt, List.set_cons_zero, List.set_cons_succ] at S_; clear S; have S := S_; clear S_) | (refine ev_put1 S ?_ rfl rfl s22 rfl rfl (by repeat (first | exact Spot.here _ _ | apply Spot.there)) ?_ ?_ ?_; (first | exact want0 rfl | exact want1 rfl rfl rfl rfl); rfl; rfl; intro w_ S_; simp only [putAt, List.set_cons_zero, List.set_cons_succ] at S_; clear S; have S := S_; clear S_) | (refine ev_put1 S ?_ rfl rfl s23 rfl rfl (by repeat (first | exact Spot.here _ _ | apply Spot.there)) ?_ ?_ ?_; (first | exact want0 rfl | exact want1 rfl rfl rfl rfl); rfl; rfl; intro w_ S_; simp only [putAt, List.set_cons_zero, List.set_cons_succ] at S_; clear S; have S := S_; clear S_) | (refine ev_put1 S ?_ rfl rfl s24 rfl rfl (by repeat (first | exact Spot.here _ _ | apply Spot.there)) ?_ ?_ ?_; (first | exact want0 rfl | exact want1 rfl rfl rfl rfl); rfl; rfl; intro w_ S_; simp only [putAt, List.set_cons_zero, List.set_cons_succ] at S_; clear S; have S := S_; clear S_) | (refine ev_owns (vs := [_, _, _, _, _, _]) S ?_ rfl m26 rfl (by repeat (first | exact Spot.here _ _ | apply Spot.there)) (by exact rfl) ?_; (first | exact want0 rfl | exact want1 rfl rfl rfl rfl)) | (refine ev_own1 S ?_ rfl o3 rfl (by repeat (first | exact Spot.here _ _ | apply Spot.there)) (by exact rfl) ?_; (first | exact want0 rfl | exact want1 rfl rfl rfl rfl)) | (go_at_call 49; have k_ := RS_drop4' (w := w) (A := some ⟨bb, oo, none⟩) hc (by assumption); (with_reducible refine (rtextSL S k_ hB 96 hb4.out HD.out.h0 HLN.out).mono ?_); clear k_; rintro z_ w_ ⟨A21, c21, rfl, hr_, S_⟩; have HR21 := Aside0.mk hr_; clear hr_; clear S; have S := S_; clear S_) | (go_at_call 49; have k_ := RS_drop4 HC.out hc h4 (by assumption); (with_reducible refine (rtextSL S k_ hB 96 hb4.out HD.out.h0 HLN.out).mono ?_); clear k_; rintro z_ w_ ⟨A21, c21, rfl, hr_, S_⟩; have HR21 := Aside0.mk hr_; clear hr_; clear S; have S := S_; clear S_) | (go_at_call 50; (with_reducible refine (gettextsS S HR21.out hB 8 HD.out.b0 HD.out.h1 HD.out.l1 HD.out.n1_).mono ?_); rintro z_ w_ ⟨A27r, c27r, A27, c27, rfl, hr_, S_⟩; have HR27 := Aside0.mk hr_; clear hr_; clear S; have S := S_; clear S_) | (go_at_call 50; (with_reducible refine (gettextsS S HR27.out hB 16 HD.out.b1_ HD.out.h2 HD.out.l2 HD.out.n2_).mono ?_); rintro z_ w_ ⟨A33r, c33r, A33, c33, rfl, hr_, S_⟩; have HR33 := Aside0.mk hr_; clear hr_; clear S; have S := S_; clear S_) | (go_at_call 51; (with_reducible refine (rwordsS S HR33.out hB 512 HD.out.b2_ HD.out.k2 HD.out.h3).mono ?_); rintro z_ w_ ⟨A39r, c39r, A39, c39, rfl, hr_, S_⟩; have HR39 := Aside0.mk hr_; clear hr_; clear S; have S := S_; clear S_) | (go_at_call 51; (with_reducible refine (rwordsS S HR39.out hB 128 HD.out.b3_ HD.out.k3 HD.out.h4).mono ?_); rintro z_ w_ ⟨A45r, c45r, A45, c45, rfl, hr_, S_⟩; have HR45 := Aside0.mk hr_; clear hr_; clear S; have S := S_; clear S_) | (go_at_call 52; (with_reducible refine (getrelocsS S HR45.out hB HD.out.b4_ HD.out.h5 HD.out.l5 HD.out.n5_).mono ?_); rintro z_ w_ ⟨A51r, c51r, A51, c51, rfl, hr_, S_⟩; have HR51 := Aside0.mk hr_; clear hr_; clear S; have S := S_; clear S_) | (go_at_call 13; have k_ : Md _ m.nm A27 c27 m.ex A33 c33 m.im A39 c39 m.co A45 c45 m.da A51 c51 m.re := ⟨Ow.reads (pAt S.out (Ow Kd.string 9 A27 c27 m.ex)), Ow.cap (pAt S.out (Ow Kd.string 9 A27 c27 m.ex)), Ow.reads (pAt S.out (Ow Kd.string 9 A33 c33 m.im)), Ow.cap (pAt S.out (Ow Kd.string 9 A33 c33 m.im)), Ow.reads (pAt S.out (Ow (Kd.int .u32) 43 A39 c39 m.co)), Ow.cap (pAt S.out (Ow (Kd.int .u32) 43 A39 c39 m.co)), Ow.reads (pAt S.out (Ow (Kd.int .u32) 43 A45 c45 m.da)), Ow.cap (pAt S.out (Ow (Kd.int .u32) 43 A45 c45 m.da)), Ow.reads (pAt S.out (Ow k50 50 A51 c51 m.re)), Ow.cap (pAt S.out (Ow k50 50 A51 c51 m.re))⟩; (with_reducible refine (rput_ok m A27 c27 A33 c33 A39 c39 A45 c45 A51 c51 _ k_ HF.out en HEN.out).mono ?_); clear k_; rintro z_ w_ ⟨A57, c57, rfl, h1_, h2_, hb_⟩; have S_ := Aside0.mk (St.add S.out hb_ _ h1_ h2_); clear h1_ h2_ hb_; clear S; have S := S_; clear S_))
        all_goals
          refine retN (rs := [.cell 2 26, .tmp 3]) rfl rfl ?_ (Bk.vals S rfl (by repeat (first | exact Spot.here _ _ | apply Spot.there)) m26 (by exact rfl) (.tmp .nil)) ?_
          · simp
          refine ⟨?_, S.out.below⟩
          unfold RGot
          rw [if_neg (fun h => hx h.2.2)]
          rfl
end Go.Proofs.Ytkoimdgpicmakaa.Ob
