/- What is laid of a module is read as that module (the plain law of object.Get and object.Put). -/
import Derived.Test.YtkoimdgpicmakaaGet2
namespace Go.Proofs.Ytkoimdgpicmakaa.Inv
open Go.Proofs.Ytkoimdgpicmakaa.Reader Go.Proofs.Ytkoimdgpicmakaa.Pure1 Go.Proofs.Ytkoimdgpicmakaa.Pure2 Go.Proofs.Ytkoimdgpicmakaa.Pure4 Go.Proofs.Ytkoimdgpicmakaa.Ob
open Go.RowKit Go.Proofs.YtkoimdgpicmakaaW.PrintWords Go.Proofs.YtkoimdgpicmakaaW.PrintLast Go.Proofs.Ytkoimdgpicmakaa.Wm Go.Proofs.Ytkoimdgpicmakaa.PB
set_option linter.unusedVariables false
set_option linter.unusedSimpArgs false
theorem bytesOf_byte (s : ByteArray) : ∀ x ∈ bytesOf s, 0 ≤ x ∧ x < 256 := by
  intro x hx
  simp only [bytesOf, List.mem_map] at hx
  obtain ⟨u, _, rfl⟩ := hx
  have := u.toNat_lt
  omega
theorem strOfNums_bytesOf (s : ByteArray) : strOfNums (bytesOf s) = s := by
  apply ByteArray.ext
  apply Array.ext'
  simp only [strOfNums, bytesOf, List.map_map]
  rw [show ((fun x : Int => UInt8.ofNat x.toNat) ∘ fun u : UInt8 => (u.toNat : Int)) = id from by funext u; simp]
  simp
theorem wd_byte (n : Int) : ∀ x ∈ wd n, 0 ≤ x ∧ x < 256 := by
  intro x hx
  simp only [wd, List.mem_cons, List.not_mem_nil, or_false] at hx
  rcases hx with rfl | rfl | rfl | rfl <;> omega
theorem flat_byte (l : List Int) : ∀ x ∈ l.flatMap wd, 0 ≤ x ∧ x < 256 := by
  intro x hx
  obtain ⟨n, _, hn⟩ := List.mem_flatMap.1 hx
  exact wd_byte n x hn
theorem app_byte {a b : List Int} (ha : ∀ x ∈ a, 0 ≤ x ∧ x < 256) (hb : ∀ x ∈ b, 0 ≤ x ∧ x < 256) : ∀ x ∈ a ++ b, 0 ≤ x ∧ x < 256 := fun x hx => (List.mem_append.1 hx).elim (ha x) (hb x)
theorem rTake_app (a b : List Int) (n : Nat) (hn : a.length = n) : rTake (a ++ b) 0 n = (b, 0, a) := by
  subst hn
  simp [rTake]
theorem rWord_wd (n : Int) (h0 : 0 ≤ n) (h1 : n < 4294967296) (rest : List Int) : rWord (wd n ++ rest) 0 = (rest, 0, n) := by
  unfold rWord
  rw [rTake_app (wd n) rest 4 rfl]
  have := wsum4 (n % 256) (n / 256 % 256) (n / 65536 % 256) (n / 16777216 % 256) (by omega) (by omega) (by omega) (by omega) (by omega) (by omega) (by omega) (by omega)
  show (rest, (0 : Int), wsum (Back.back [n % 256, n / 256 % 256, n / 65536 % 256, n / 16777216 % 256] 4)) = _
  rw [this]
  congr 2
  omega
theorem wordsK_wd (l : List Int) (hl : ∀ x ∈ l, 0 ≤ x ∧ x < 4294967296) (rest : List Int) : ∀ k, k ≤ l.length → wordsK (l.flatMap wd ++ rest) 0 k = ((l.drop k).flatMap wd ++ rest, 0, l.take k)
  | 0, _ => by simp [wordsK]
  | k + 1, hk => by
    have h := wordsK_wd l hl rest k (by omega)
    have hd : l.drop k = l[k]'(by omega) :: l.drop (k + 1) := List.drop_eq_getElem_cons (by omega)
    have hb := hl (l[k]'(by omega)) (List.getElem_mem _)
    rw [wordsK, h, hd]
    simp only [List.flatMap_cons, List.append_assoc]
    rw [rWord_wd _ hb.1 hb.2]
    rw [List.take_succ_eq_append_getElem (show k < l.length by omega)]
theorem rTake_shr (xs : List Int) (e : Int) (n : Nat) : (rTake xs e n).1.length ≤ xs.length := by
  unfold rTake
  split
  · split <;> simp
  · exact Nat.le_refl _
theorem wordsK_shr (xs : List Int) (e : Int) (k : Nat) : (wordsK xs e k).1.length ≤ xs.length := by
  induction k with
  | zero => exact Nat.le_refl _
  | succ k ih => exact Nat.le_trans (rTake_shr _ _ _) ih
theorem rWords_shr (xs : List Int) (e most : Int) : (rWords xs e most).1.length ≤ xs.length := by
  unfold rWords
  split
  · simp
  · exact Nat.le_trans (wordsK_shr _ _ _) (rVar_len _ _ _)

theorem atM_self (m : Nat) (h : m < 4294967296) : atM (m : Int) = (m : Int) := by unfold atM mx mn; omega
theorem read_txt (s : ByteArray) (m : Nat) (hs : s.size ≤ m) (hm : m < 4294967296) (rest : List Int) (hr : ∀ x ∈ rest, 0 ≤ x ∧ x < 256) : rText (txt s ++ rest) 0 (m : Int) = (rest, 0, bytesOf s) := by
  have hz : (s.size : Int) % 4294967296 = (s.size : Int) := Int.emod_eq_of_lt (by omega) (by omega)
  unfold rText
  rw [atM_self m hm, txt, hz, List.append_assoc, rVar_num (s.size : Int) (m : Int) (by omega) (by omega) (by omega) _ (app_byte (bytesOf_byte s) hr)]
  exact rTake_app _ _ _ (by simp [bytesOf_length])
theorem read_one (s : ByteArray) (hs : s.size ≤ 96) (rest : List Int) (hr : ∀ x ∈ rest, 0 ≤ x ∧ x < 256) : one39 (txt s ++ rest) 0 = (rest, 0, s) := by
  unfold one39
  have h := read_txt s 96 hs (by decide) rest hr
  rw [show ((96 : Nat) : Int) = 96 from rfl] at h
  rw [h]
  simp only [strOfNums_bytesOf]
theorem num_bytes (n : Int) (h0 : 0 ≤ n) (h1 : n < 4294967296) : ∀ x ∈ num n, 0 ≤ x ∧ x < 256 := num_byte n h0 h1
theorem txt_byte (s : ByteArray) : ∀ x ∈ txt s, 0 ≤ x ∧ x < 256 := app_byte (num_byte _ (by omega) (by omega)) (bytesOf_byte s)
theorem flatT_byte (l : List ByteArray) : ∀ x ∈ l.flatMap txt, 0 ≤ x ∧ x < 256 := by
  intro x hx
  obtain ⟨n, _, hn⟩ := List.mem_flatMap.1 hx
  exact txt_byte n x hn
theorem list_txt (rest : List Int) (hr : ∀ x ∈ rest, 0 ≤ x ∧ x < 256) : ∀ (l : List ByteArray), (∀ s ∈ l, s.size ≤ 96) → rList one39 l.length (l.flatMap txt ++ rest) 0 = (rest, 0, l)
  | [], _ => rfl
  | s :: l, h => by
    have ih := list_txt rest hr l (fun x hx => h x (List.mem_cons_of_mem _ hx))
    have h1 := read_one s (h s List.mem_cons_self) (l.flatMap txt ++ rest) (app_byte (flatT_byte l) hr)
    rw [List.length_cons, List.flatMap_cons, List.append_assoc]
    unfold rList
    rw [if_pos rfl, h1]
    simp only
    rw [ih]
theorem read_texts (l : List ByteArray) (m : Nat) (hl : l.length ≤ m) (hm : m < 4294967296) (h : ∀ s ∈ l, s.size ≤ 96) (rest : List Int) (hr : ∀ x ∈ rest, 0 ≤ x ∧ x < 256) :
    rVar (texts l ++ rest) 0 (m : Int) = (l.flatMap txt ++ rest, 0, (l.length : Int)) := by
  unfold texts
  rw [List.append_assoc]
  exact rVar_num (l.length : Int) (m : Int) (by omega) (by omega) (by omega) _ (app_byte (flatT_byte l) hr)
/-- What a reloc's numbers may be. -/
def Rb (r : S50) : Prop := 0 ≤ r.f0 ∧ r.f0 ≤ 7 ∧ 0 ≤ r.f1 ∧ r.f1 < 65536 ∧ 0 ≤ r.f2 ∧ r.f2 < 65536
theorem num_one (n : Int) (h : n < 128) : num n = [n] := by unfold num vb; rw [if_neg (by omega)]
theorem lr_byte (r : S50) (h : Rb r) : ∀ x ∈ lr r, 0 ≤ x ∧ x < 256 := by
  obtain ⟨h0, h1, h2, h3, h4, h5⟩ := h
  exact app_byte (fun x hx => by rcases List.mem_singleton.1 hx with rfl; omega) (app_byte (num_byte _ (by omega) (by omega)) (num_byte _ (by omega) (by omega)))
theorem read_rel (r : S50) (h : Rb r) (rest : List Int) (hr : ∀ x ∈ rest, 0 ≤ x ∧ x < 256) : rRel (lr r ++ rest) 0 = (rest, 0, r) := by
  obtain ⟨h0, h1, h2, h3, h4, h5⟩ := h
  have e1 : r.f1 % 4294967296 = r.f1 := Int.emod_eq_of_lt h2 (by omega)
  have e2 : r.f2 % 4294967296 = r.f2 := Int.emod_eq_of_lt h4 (by omega)
  have b2 := app_byte (num_byte r.f2 h4 (by omega)) hr
  have b1 := app_byte (num_byte r.f1 h2 (by omega)) b2
  have k1 : rVar (lr r ++ rest) 0 7 = (num r.f1 ++ (num r.f2 ++ rest), 0, r.f0) := by
    have := rVar_num r.f0 7 h0 h1 (by decide) (num r.f1 ++ (num r.f2 ++ rest)) b1
    rw [num_one r.f0 (by omega)] at this
    unfold lr
    rw [e1, e2]
    simpa [List.append_assoc] using this
  have k2 := rVar_num r.f1 65535 h2 (by omega) (by decide) (num r.f2 ++ rest) b2
  have k3 := rVar_num r.f2 65535 h4 (by omega) (by decide) rest hr
  unfold rRel
  rw [k1]
  simp only
  rw [k2]
  simp only
  rw [k3]
  simp only
  rw [Int.emod_eq_of_lt h0 (by omega), Int.emod_eq_of_lt h2 h3, Int.emod_eq_of_lt h4 h5]
theorem flatR_byte (l : List S50) (h : ∀ r ∈ l, Rb r) : ∀ x ∈ l.flatMap lr, 0 ≤ x ∧ x < 256 := by
  intro x hx
  obtain ⟨n, hn0, hn⟩ := List.mem_flatMap.1 hx
  exact lr_byte n (h n hn0) x hn
theorem list_rel (rest : List Int) (hr : ∀ x ∈ rest, 0 ≤ x ∧ x < 256) : ∀ (l : List S50), (∀ r ∈ l, Rb r) → rList rRel l.length (l.flatMap lr ++ rest) 0 = (rest, 0, l)
  | [], _ => rfl
  | s :: l, h => by
    have hl : ∀ r ∈ l, Rb r := fun x hx => h x (List.mem_cons_of_mem _ hx)
    have ih := list_rel rest hr l hl
    have h1 := read_rel s (h s List.mem_cons_self) (l.flatMap lr ++ rest) (app_byte (flatR_byte l hl) hr)
    rw [List.length_cons, List.flatMap_cons, List.append_assoc]
    unfold rList
    rw [if_pos rfl, h1]
    simp only
    rw [ih]
theorem wds_byte (l : List Int) : ∀ x ∈ wds l, 0 ≤ x ∧ x < 256 := app_byte (num_byte _ (by omega) (by omega)) (flat_byte l)
theorem read_wds (l : List Int) (m : Nat) (hl : l.length ≤ m) (hm : m < 4294967296) (h : ∀ x ∈ l, 0 ≤ x ∧ x < 4294967296) (rest : List Int) (hr : ∀ x ∈ rest, 0 ≤ x ∧ x < 256) : rWords (wds l ++ rest) 0 (m : Int) = (rest, 0, l) := by
  have hz : (l.length : Int) % 4294967296 = (l.length : Int) := Int.emod_eq_of_lt (by omega) (by omega)
  have hv := rVar_num (l.length : Int) (m : Int) (by omega) (by omega) (by omega) (l.flatMap wd ++ rest) (app_byte (flat_byte l) hr)
  unfold rWords
  rw [atM_self m hm, wds, hz, List.append_assoc, hv]
  have hf := flat_len l
  rw [if_neg (by simp only [Int.toNat_natCast, List.length_append]; omega)]
  have := wordsK_wd l h rest l.length (Nat.le_refl _)
  simpa using this
theorem texts_byte (l : List ByteArray) (h : l.length < 4294967296) : ∀ x ∈ texts l, 0 ≤ x ∧ x < 256 := app_byte (num_byte _ (by omega) (by omega)) (flatT_byte l)
theorem rels_byte (l : List S50) (h : l.length < 4294967296) (hr : ∀ r ∈ l, Rb r) : ∀ x ∈ rels l, 0 ≤ x ∧ x < 256 := app_byte (num_byte _ (by omega) (by omega)) (flatR_byte l hr)
/-- The bytes behind the magic ones. -/
def tail (nm : ByteArray) (ex im : List ByteArray) (co da : List Int) (re : List S50) : List Int := txt nm ++ (texts ex ++ (texts im ++ (wds co ++ (wds da ++ rels re))))
theorem dec_enc {nm : ByteArray} {ex im : List ByteArray} {co da : List Int} {re : List S50} (h : Okm nm ex im co da re) (hco : ∀ x ∈ co, 0 ≤ x ∧ x < 4294967296) (hda : ∀ x ∈ da, 0 ≤ x ∧ x < 4294967296) (hre : ∀ r ∈ re, Rb r) (rest : List Int) (hr : ∀ x ∈ rest, 0 ≤ x ∧ x < 256)
    (hl : (tail nm ex im co da re ++ rest).length ≤ 16384) :
    Dc (tail nm ex im co da re ++ rest) (texts ex ++ (texts im ++ (wds co ++ (wds da ++ (rels re ++ rest))))) 0 nm (ex.flatMap txt ++ (texts im ++ (wds co ++ (wds da ++ (rels re ++ rest))))) 0 ex.length (texts im ++ (wds co ++ (wds da ++ (rels re ++ rest)))) 0 ex
      (im.flatMap txt ++ (wds co ++ (wds da ++ (rels re ++ rest)))) 0 im.length (wds co ++ (wds da ++ (rels re ++ rest))) 0 im (wds da ++ (rels re ++ rest)) 0 co (rels re ++ rest) 0 da (re.flatMap lr ++ rest) 0 re.length rest 0 re := by
  have b5 := app_byte (rels_byte re (by have := h.nre; omega) hre) hr
  have b4 := app_byte (wds_byte da) b5
  have b3 := app_byte (wds_byte co) b4
  have b2 := app_byte (texts_byte im (by have := h.nim; omega)) b3
  have b1 := app_byte (texts_byte ex (by have := h.nex; omega)) b2
  have ht : tail nm ex im co da re ++ rest = txt nm ++ (texts ex ++ (texts im ++ (wds co ++ (wds da ++ (rels re ++ rest))))) := by simp [tail]
  rw [ht] at hl ⊢
  simp only [List.length_append] at hl
  refine ⟨read_one nm h.nnm _ b1, read_texts ex 8 h.nex (by decide) h.exs _ b2, list_txt _ b2 ex h.exs, read_texts im 16 h.nim (by decide) h.ims _ b3, list_txt _ b3 im h.ims, read_wds co 512 h.nco (by decide) hco _ b4, read_wds da 128 h.nda (by decide) hda _ b5, ?_, list_rel _ hr re hre, by simp only [List.length_append]; omega, by simp only [List.length_append]; omega⟩
  unfold rels
  rw [List.append_assoc]
  exact rVar_num (re.length : Int) 256 (by omega) (by have := h.nre; omega) (by decide) _ (app_byte (flatR_byte re hre) hr)
theorem rText_shr (xs : List Int) (e most : Int) : (rText xs e most).1.length ≤ xs.length := by
  unfold rText
  exact Nat.le_trans (rTake_shr _ _ _) (rVar_len _ _ _)
theorem one_shr (xs : List Int) (e : Int) : (one39 xs e).1.length ≤ xs.length := rText_shr _ _ _
theorem rList_shr {α : Type} (one : List Int → Int → List Int × Int × α) (h : ∀ xs e, (one xs e).1.length ≤ xs.length) : ∀ (n : Nat) (xs : List Int) (e : Int), (rList one n xs e).1.length ≤ xs.length
  | 0, xs, e => Nat.le_refl _
  | n + 1, xs, e => by
    unfold rList
    split
    · exact Nat.le_trans (rList_shr one h n _ _) (h xs e)
    · exact Nat.le_refl _
/-- Whatever the bytes are, something is read. -/
theorem dec_any (xs : List Int) (hx : xs.length ≤ 16384) : ∃ y0 e0 nm a1 b1 n1 y1 e1 ex a2 b2 n2 y2 e2 im y3 e3 co y4 e4 da a5 b5 n5 y5 e5 re, Dc xs y0 e0 nm a1 b1 n1 y1 e1 ex a2 b2 n2 y2 e2 im y3 e3 co y4 e4 da a5 b5 n5 y5 e5 re := by
  have nat : ∀ (xs : List Int) (e most : Int), rVar xs e most = ((rVar xs e most).1, (rVar xs e most).2.1, (((rVar xs e most).2.2.toNat : Nat) : Int)) := fun xs e most => by rw [Int.toNat_of_nonneg (rVar_bd xs e most).1]
  rcases h0 : one39 xs 0 with ⟨y0, e0, nm⟩
  have s0 : y0.length ≤ xs.length := by have := one_shr xs 0; rw [h0] at this; exact this
  have h1 := nat y0 e0 8
  have s1 := rVar_len y0 e0 8
  rcases l1 : rList one39 (rVar y0 e0 8).2.2.toNat (rVar y0 e0 8).1 (rVar y0 e0 8).2.1 with ⟨y1, e1, ex⟩
  have s1' : y1.length ≤ (rVar y0 e0 8).1.length := by have := rList_shr one39 one_shr (rVar y0 e0 8).2.2.toNat (rVar y0 e0 8).1 (rVar y0 e0 8).2.1; rw [l1] at this; exact this
  have h2 := nat y1 e1 16
  have s2 := rVar_len y1 e1 16
  rcases l2 : rList one39 (rVar y1 e1 16).2.2.toNat (rVar y1 e1 16).1 (rVar y1 e1 16).2.1 with ⟨y2, e2, im⟩
  have s2' : y2.length ≤ (rVar y1 e1 16).1.length := by have := rList_shr one39 one_shr (rVar y1 e1 16).2.2.toNat (rVar y1 e1 16).1 (rVar y1 e1 16).2.1; rw [l2] at this; exact this
  rcases h3 : rWords y2 e2 512 with ⟨y3, e3, co⟩
  have s3 : y3.length ≤ y2.length := by have := rWords_shr y2 e2 512; rw [h3] at this; exact this
  rcases h4 : rWords y3 e3 128 with ⟨y4, e4, da⟩
  have h5 := nat y4 e4 256
  rcases l5 : rList rRel (rVar y4 e4 256).2.2.toNat (rVar y4 e4 256).1 (rVar y4 e4 256).2.1 with ⟨y5, e5, re⟩
  exact ⟨y0, e0, nm, _, _, _, y1, e1, ex, _, _, _, y2, e2, im, y3, e3, co, y4, e4, da, _, _, _, y5, e5, re, h0, h1, l1, h2, l2, h3, h4, h5, l5, by omega, by omega⟩
/-- Two modules with the same bytes are one. -/
theorem enc_inj {nm nm' : ByteArray} {ex im ex' im' : List ByteArray} {co da co' da' : List Int} {re re' : List S50} (h : Okm nm ex im co da re) (h' : Okm nm' ex' im' co' da' re') (hco : ∀ x ∈ co, 0 ≤ x ∧ x < 4294967296) (hda : ∀ x ∈ da, 0 ≤ x ∧ x < 4294967296) (hre : ∀ r ∈ re, Rb r)
    (hco' : ∀ x ∈ co', 0 ≤ x ∧ x < 4294967296) (hda' : ∀ x ∈ da', 0 ≤ x ∧ x < 4294967296) (hre' : ∀ r ∈ re', Rb r) (e : tail nm ex im co da re = tail nm' ex' im' co' da' re') (hl : (tail nm ex im co da re).length ≤ 16384) : nm = nm' ∧ ex = ex' ∧ im = im' ∧ co = co' ∧ da = da' ∧ re = re' := by
  have d1 := dec_enc h hco hda hre [] (by simp) (by simpa using hl)
  have d2 := dec_enc h' hco' hda' hre' [] (by simp) (by rw [← e]; simpa using hl)
  rw [← e] at d2
  have g0 := d1.h0.symm.trans d2.h0
  simp only [Prod.mk.injEq] at g0
  obtain ⟨q0, _, rfl⟩ := g0
  have g1 := d1.h1; rw [q0] at g1
  have g1 := g1.symm.trans d2.h1
  simp only [Prod.mk.injEq, Int.natCast_inj] at g1
  have g2 := d1.l1; rw [g1.1, g1.2.2] at g2
  have g2 := g2.symm.trans d2.l1
  simp only [Prod.mk.injEq] at g2
  obtain ⟨q1, _, rfl⟩ := g2
  have g3 := d1.h2; rw [q1] at g3
  have g3 := g3.symm.trans d2.h2
  simp only [Prod.mk.injEq, Int.natCast_inj] at g3
  have g4 := d1.l2; rw [g3.1, g3.2.2] at g4
  have g4 := g4.symm.trans d2.l2
  simp only [Prod.mk.injEq] at g4
  obtain ⟨q2, _, rfl⟩ := g4
  have g5 := d1.h3; rw [q2] at g5
  have g5 := g5.symm.trans d2.h3
  simp only [Prod.mk.injEq] at g5
  obtain ⟨q3, _, rfl⟩ := g5
  have g6 := d1.h4; rw [q3] at g6
  have g6 := g6.symm.trans d2.h4
  simp only [Prod.mk.injEq] at g6
  obtain ⟨q4, _, rfl⟩ := g6
  have g7 := d1.h5; rw [q4] at g7
  have g7 := g7.symm.trans d2.h5
  simp only [Prod.mk.injEq, Int.natCast_inj] at g7
  have g8 := d1.l5; rw [g7.1, g7.2.2] at g8
  have g8 := g8.symm.trans d2.l5
  simp only [Prod.mk.injEq] at g8
  exact ⟨rfl, rfl, rfl, rfl, rfl, g8.2.2⟩
end Go.Proofs.Ytkoimdgpicmakaa.Inv
namespace Go.Proofs.Ytkoimdgpicmakaa.Inv
open Go.Proofs.Ytkoimdgpicmakaa.Reader Go.Proofs.Ytkoimdgpicmakaa.Pure1 Go.Proofs.Ytkoimdgpicmakaa.Pure2 Go.Proofs.Ytkoimdgpicmakaa.Pure4 Go.Proofs.Ytkoimdgpicmakaa.Ob
open Go.RowKit Go.Proofs.YtkoimdgpicmakaaW.PrintWords Go.Proofs.YtkoimdgpicmakaaW.PrintLast Go.Proofs.Ytkoimdgpicmakaa.Wm Go.Proofs.Ytkoimdgpicmakaa.PB
set_option linter.unusedVariables false
set_option linter.unusedSimpArgs false
theorem txt_96 (s : ByteArray) (h : s.size ≤ 96) : (txt s).length ≤ 101 := by
  unfold txt
  have := (num_len ((s.size : Int) % 4294967296)).2
  rw [List.length_append, bytesOf_length]
  omega
theorem lr_11 (r : S50) : (lr r).length ≤ 11 := by
  unfold lr
  have h1 := (num_len (r.f1 % 4294967296)).2
  have h2 := (num_len (r.f2 % 4294967296)).2
  simp only [List.length_append, List.length_cons, List.length_nil]
  omega
theorem tail_le {nm : ByteArray} {ex im : List ByteArray} {co da : List Int} {re : List S50} (h : Okm nm ex im co da re) : (tail nm ex im co da re).length ≤ 8000 := by
  have h0 := txt_96 nm h.nnm
  have h1 := flat_le txt 101 ex (fun s hs => txt_96 s (h.exs s hs))
  have h2 := flat_le txt 101 im (fun s hs => txt_96 s (h.ims s hs))
  have h3 := flat_len co
  have h4 := flat_len da
  have h5 := flat_le lr 11 re (fun r _ => lr_11 r)
  have n1 := (num_len (ex.length : Int)).2
  have n2 := (num_len (im.length : Int)).2
  have n3 := (num_len ((co.length : Int) % 4294967296)).2
  have n4 := (num_len ((da.length : Int) % 4294967296)).2
  have n5 := (num_len (re.length : Int)).2
  have := h.nex; have := h.nim; have := h.nco; have := h.nda; have := h.nre
  unfold tail texts wds rels
  simp only [List.length_append]
  omega
theorem enc_tail (nm : ByteArray) (ex im : List ByteArray) (co da : List Int) (re : List S50) : enc nm ex im co da re = magic ++ tail nm ex im co da re := rfl
theorem size_same (l0 l1 : List Int) : l0 = l1 → l0.length = l1.length := fun h => by rw [h]
instance decS50 : DecidableEq S50 := fun a b =>
  if h : a.f0 = b.f0 ∧ a.f1 = b.f1 ∧ a.f2 = b.f2 then .isTrue (by rcases a with ⟨a0, a1, a2⟩; rcases b with ⟨b0, b1, b2⟩; simp only at h; rw [h.1, h.2.1, h.2.2]) else .isFalse (fun e => h (by rw [e]; exact ⟨rfl, rfl, rfl⟩))
/-- Are two modules one? -/
def sm (nm : ByteArray) (ex im : List ByteArray) (co da : List Int) (re : List S50) (nm' : ByteArray) (ex' im' : List ByteArray) (co' da' : List Int) (re' : List S50) : Bool := decide (nm = nm' ∧ ex = ex' ∧ im = im' ∧ co = co' ∧ da = da' ∧ re = re')
end Go.Proofs.Ytkoimdgpicmakaa.Inv
namespace Go.Proofs.Ytkoimdgpicmakaa.Ob
open Go.Proofs.Ytkoimdgpicmakaa.Reader Go.Proofs.Ytkoimdgpicmakaa.Inv Go.Proofs.Ytkoimdgpicmakaa.Pure1 Go.Proofs.Ytkoimdgpicmakaa.Pure2 Go.Proofs.Ytkoimdgpicmakaa.Pure4
open Go.RowKit Go.Proofs.Ytkoimdgpicmakaa.Sep Go.Proofs.YtkoimdgpicmakaaW.PrintWords Go.Proofs.YtkoimdgpicmakaaW.PrintLast Go.Proofs.Ytkoimdgpicmakaa.Wm Go.Proofs.Ytkoimdgpicmakaa.Ev Go.Proofs.Ytkoimdgpicmakaa.Ty Go.Proofs.Ytkoimdgpicmakaa.PB
set_option linter.unusedVariables false
set_option linter.unusedSimpArgs false

/-- A module. -/
structure Mo where
  nm : ByteArray
  ex : List ByteArray
  im : List ByteArray
  co : List Int
  da : List Int
  re : List S50
def Mo.enc (m : Mo) : List Int := Ob.enc m.nm m.ex m.im m.co m.da m.re
def Mo.chk (m : Mo) : Int := Ob.chk m.nm m.ex m.im m.co m.da m.re
structure Mo.Wf (m : Mo) : Prop where
  co : ∀ x ∈ m.co, 0 ≤ x ∧ x < 4294967296
  da : ∀ x ∈ m.da, 0 ≤ x ∧ x < 4294967296
  re : ∀ r ∈ m.re, 0 ≤ r.f0 ∧ 0 ≤ r.f1 ∧ r.f1 < 65536 ∧ 0 ≤ r.f2 ∧ r.f2 < 65536
/-- These are the module's bytes. -/
structure Lies (m : Mo) (xs : List Int) : Prop where
  chk : m.chk = 0
  wf : m.Wf
  enc : m.enc = xs
theorem Lies.okm {m : Mo} {xs : List Int} (h : Lies m xs) : Okm m.nm m.ex m.im m.co m.da m.re := chk_ok h.chk
theorem Lies.rb {m : Mo} {xs : List Int} (h : Lies m xs) : ∀ r ∈ m.re, Rb r := fun r hr => by
  have h1 := h.wf.re r hr
  exact ⟨h1.1, h.okm.res r hr, h1.2.1, h1.2.2.1, h1.2.2.2.1, h1.2.2.2.2⟩
def Mo.tail (m : Mo) : List Int := Inv.tail m.nm m.ex m.im m.co m.da m.re
theorem Lies.eq {m : Mo} {xs : List Int} (h : Lies m xs) : xs = magic ++ m.tail := h.enc.symm
theorem Lies.le {m : Mo} {xs : List Int} (h : Lies m xs) : xs.length ≤ 8004 := by
  have h1 := tail_le h.okm
  rw [h.eq, List.length_append]
  have : magic.length = 4 := rfl
  unfold Mo.tail
  omega
theorem Lies.lo {m : Mo} {xs : List Int} (h : Lies m xs) : 10 ≤ xs.length := by
  rw [h.eq]
  unfold Mo.tail Inv.tail txt texts wds rels
  have n0 := (num_len ((m.nm.size : Int) % 4294967296)).1
  have n1 := (num_len (m.ex.length : Int)).1
  have n2 := (num_len (m.im.length : Int)).1
  have n3 := (num_len ((m.co.length : Int) % 4294967296)).1
  have n4 := (num_len ((m.da.length : Int) % 4294967296)).1
  have n5 := (num_len (m.re.length : Int)).1
  have h6 : magic.length = 4 := rfl
  simp only [List.length_append]
  omega
theorem Lies.drop {m : Mo} {xs : List Int} (h : Lies m xs) : xs.drop 4 = m.tail := by rw [h.eq]; rfl
/-- What is read is told by the bytes. -/
theorem Dc.det {xs : List Int} {y0 : List Int} {e0 : Int} {nm : ByteArray} {a1 : List Int} {b1 : Int} {n1 : Nat} {y1 : List Int} {e1 : Int} {ex : List ByteArray} {a2 : List Int} {b2 : Int} {n2 : Nat} {y2 : List Int} {e2 : Int} {im : List ByteArray} {y3 : List Int} {e3 : Int} {co : List Int} {y4 : List Int} {e4 : Int} {da : List Int} {a5 : List Int} {b5 : Int} {n5 : Nat} {y5 : List Int} {e5 : Int} {re : List S50} {y0' : List Int} {e0' : Int} {nm' : ByteArray} {a1' : List Int} {b1' : Int} {n1' : Nat} {y1' : List Int} {e1' : Int} {ex' : List ByteArray} {a2' : List Int} {b2' : Int} {n2' : Nat} {y2' : List Int} {e2' : Int} {im' : List ByteArray} {y3' : List Int} {e3' : Int} {co' : List Int} {y4' : List Int} {e4' : Int} {da' : List Int} {a5' : List Int} {b5' : Int} {n5' : Nat} {y5' : List Int} {e5' : Int} {re' : List S50} (d1 : Dc xs y0 e0 nm a1 b1 n1 y1 e1 ex a2 b2 n2 y2 e2 im y3 e3 co y4 e4 da a5 b5 n5 y5 e5 re) (d2 : Dc xs y0' e0' nm' a1' b1' n1' y1' e1' ex' a2' b2' n2' y2' e2' im' y3' e3' co' y4' e4' da' a5' b5' n5' y5' e5' re') : y5 = y5' ∧ e5 = e5' ∧ nm = nm' ∧ ex = ex' ∧ im = im' ∧ co = co' ∧ da = da' ∧ re = re' := by
  have g0 := d1.h0.symm.trans d2.h0
  simp only [Prod.mk.injEq] at g0
  obtain ⟨rfl, rfl, rfl⟩ := g0
  have g1 := d1.h1.symm.trans d2.h1
  simp only [Prod.mk.injEq, Int.natCast_inj] at g1
  obtain ⟨rfl, rfl, rfl⟩ := g1
  have g2 := d1.l1.symm.trans d2.l1
  simp only [Prod.mk.injEq] at g2
  obtain ⟨rfl, rfl, rfl⟩ := g2
  have g3 := d1.h2.symm.trans d2.h2
  simp only [Prod.mk.injEq, Int.natCast_inj] at g3
  obtain ⟨rfl, rfl, rfl⟩ := g3
  have g4 := d1.l2.symm.trans d2.l2
  simp only [Prod.mk.injEq] at g4
  obtain ⟨rfl, rfl, rfl⟩ := g4
  have g5 := d1.h3.symm.trans d2.h3
  simp only [Prod.mk.injEq] at g5
  obtain ⟨rfl, rfl, rfl⟩ := g5
  have g6 := d1.h4.symm.trans d2.h4
  simp only [Prod.mk.injEq] at g6
  obtain ⟨rfl, rfl, rfl⟩ := g6
  have g7 := d1.h5.symm.trans d2.h5
  simp only [Prod.mk.injEq, Int.natCast_inj] at g7
  obtain ⟨rfl, rfl, rfl⟩ := g7
  have g8 := d1.l5.symm.trans d2.l5
  simp only [Prod.mk.injEq] at g8
  obtain ⟨rfl, rfl, rfl⟩ := g8
  exact ⟨rfl, rfl, rfl, rfl, rfl, rfl, rfl, rfl⟩
theorem Lies.dec {m : Mo} {xs : List Int} (h : Lies m xs) (rest : List Int) (hr : ∀ x ∈ rest, 0 ≤ x ∧ x < 256) (hl : rest.length ≤ 8000) : ∃ y0 e0 a1 b1 n1 y1 e1 a2 b2 n2 y2 e2 y3 e3 y4 e4 a5 b5 n5, Dc (m.tail ++ rest) y0 e0 m.nm a1 b1 n1 y1 e1 m.ex a2 b2 n2 y2 e2 m.im y3 e3 m.co y4 e4 m.da a5 b5 n5 rest 0 m.re := by
  have h1 := tail_le h.okm
  exact ⟨_, _, _, _, _, _, _, _, _, _, _, _, _, _, _, _, _, _, _, dec_enc h.okm h.wf.co h.wf.da h.rb rest hr (by rw [List.length_append]; omega)⟩
theorem Lies.inj {m m' : Mo} {xs : List Int} (h : Lies m xs) (h' : Lies m' xs) : m = m' := by
  obtain ⟨_, _, _, _, _, _, _, _, _, _, _, _, _, _, _, _, _, _, _, d⟩ := h.dec [] (by simp) (by simp)
  obtain ⟨_, _, _, _, _, _, _, _, _, _, _, _, _, _, _, _, _, _, _, d'⟩ := h'.dec [] (by simp) (by simp)
  rw [← h'.drop, h.drop] at d'
  obtain ⟨_, _, e1, e2, e3, e4, e5, e6⟩ := d.det d'
  rcases m with ⟨m1, m2, m3, m4, m5, m6⟩
  rcases m' with ⟨m1', m2', m3', m4', m5', m6'⟩
  simp only at e1 e2 e3 e4 e5 e6
  rw [e1, e2, e3, e4, e5, e6]
/-- No bytes behind: they would be left. -/
theorem Lies.app {m m' : Mo} {xs rest : List Int} (h : Lies m xs) (h' : Lies m' (xs ++ rest)) (hr : ∀ x ∈ rest, 0 ≤ x ∧ x < 256) (hl : rest.length ≤ 8000) : rest = [] := by
  obtain ⟨_, _, _, _, _, _, _, _, _, _, _, _, _, _, _, _, _, _, _, d⟩ := h.dec rest hr hl
  obtain ⟨_, _, _, _, _, _, _, _, _, _, _, _, _, _, _, _, _, _, _, d'⟩ := h'.dec [] (by simp) (by simp)
  have e : m'.tail = m.tail ++ rest := by
    rw [← h'.drop, h.eq]
    rfl
  rw [e, List.append_nil] at d'
  exact (d.det d').1
theorem wsum_bd (xs : List (Nat × Int)) : 0 ≤ wsum xs ∧ wsum xs < 4294967296 := by
  rcases List.eq_nil_or_concat xs with rfl | ⟨l, x, rfl⟩
  · exact ⟨by decide, by decide⟩
  · rw [List.concat_eq_append, wsum_snoc]
    unfold bits IntKind.wrap
    simp only [IntKind.bits, IntKind.signed]
    constructor
    · simp; omega
    · simp; omega
theorem wordsK_wf (xs : List Int) (e : Int) : ∀ k, ∀ x ∈ (wordsK xs e k).2.2, 0 ≤ x ∧ x < 4294967296
  | 0 => by simp [wordsK]
  | k + 1 => by
    intro x hx
    unfold wordsK at hx
    rcases List.mem_append.1 hx with hx | hx
    · exact wordsK_wf xs e k x hx
    · rcases List.mem_singleton.1 hx with rfl
      exact wsum_bd _
theorem rWords_wf (xs : List Int) (e most : Int) : ∀ x ∈ (rWords xs e most).2.2, 0 ≤ x ∧ x < 4294967296 := by
  unfold rWords
  split
  · simp
  · exact wordsK_wf _ _ _
theorem rList_wf {α : Type} (one : List Int → Int → List Int × Int × α) (P : α → Prop) (h : ∀ xs e, P (one xs e).2.2) : ∀ (n : Nat) (xs : List Int) (e : Int), ∀ r ∈ (rList one n xs e).2.2, P r
  | 0, xs, e => by simp [rList]
  | n + 1, xs, e => by
    unfold rList
    split
    · intro r hr
      rcases List.mem_cons.1 hr with rfl | hr
      · exact h xs e
      · exact rList_wf one P h n _ _ r hr
    · simp
theorem Dc.wf {xs : List Int} {y0 : List Int} {e0 : Int} {nm : ByteArray} {a1 : List Int} {b1 : Int} {n1 : Nat} {y1 : List Int} {e1 : Int} {ex : List ByteArray} {a2 : List Int} {b2 : Int} {n2 : Nat} {y2 : List Int} {e2 : Int} {im : List ByteArray} {y3 : List Int} {e3 : Int} {co : List Int} {y4 : List Int} {e4 : Int} {da : List Int} {a5 : List Int} {b5 : Int} {n5 : Nat} {y5 : List Int} {e5 : Int} {re : List S50} (d : Dc xs y0 e0 nm a1 b1 n1 y1 e1 ex a2 b2 n2 y2 e2 im y3 e3 co y4 e4 da a5 b5 n5 y5 e5 re) : (Mo.mk nm ex im co da re).Wf := by
  refine ⟨?_, ?_, ?_⟩
  · have := rWords_wf y2 e2 512; rw [d.h3] at this; exact this
  · have := rWords_wf y3 e3 128; rw [d.h4] at this; exact this
  · have := rList_wf rRel (fun r => 0 ≤ r.f0 ∧ 0 ≤ r.f1 ∧ r.f1 < 65536 ∧ 0 ≤ r.f2 ∧ r.f2 < 65536) (fun xs e => by unfold rRel; simp only; omega) n5 a5 b5
    rw [d.l5] at this
    exact this
theorem dec_nil' : Dc ([] : List Int) [] 3 (strOfNums []) [] 3 0 [] 3 [] [] 3 0 [] 3 [] [] 3 [] [] 3 [] [] 3 0 [] 3 [] := by
  constructor <;> first | rfl | decide | simp [one39, rText, rVar, vr, rTake, atM, mx, mn, rList, rWords, wordsK]
/-- The module whose bytes these are is read. -/
theorem get_yes (A : Option Addr) (c : Nat) (xs : List Int) (w : World) (hC : Kd.C (Kd.int .u8) w A xs.length xs) (hc : xs.length ≤ c) (m : Mo) (h : Lies m xs) :
    Calls Try.prog 17 #[.slice A xs.length c] w fun z w' => (∃ A1 c1 A2 c2 A3 c3 A4 c4 A5 c5, z = .returned (.tuple #[.agg #[.string m.nm, .slice A1 m.ex.length c1, .slice A2 m.im.length c2, .slice A3 m.co.length c3, .slice A4 m.da.length c4, .slice A5 m.re.length c5], .int .i64 0]) ∧ (Ow Kd.string 9 A1 c1 m.ex).pred w' ∧ (Ow Kd.string 9 A2 c2 m.im).pred w' ∧ (Ow (Kd.int .u32) 43 A3 c3 m.co).pred w' ∧ (Ow (Kd.int .u32) 43 A4 c4 m.da).pred w' ∧ (Ow k50 50 A5 c5 m.re).pred w' ∧ (∀ k, (Ow Kd.string 9 A1 c1 m.ex).foot k → w.heap.size ≤ k) ∧ (∀ k, (Ow Kd.string 9 A2 c2 m.im).foot k → w.heap.size ≤ k) ∧ (∀ k, (Ow (Kd.int .u32) 43 A3 c3 m.co).foot k → w.heap.size ≤ k) ∧ (∀ k, (Ow (Kd.int .u32) 43 A4 c4 m.da).foot k → w.heap.size ≤ k) ∧ (∀ k, (Ow k50 50 A5 c5 m.re).foot k → w.heap.size ≤ k) ∧ Apart (Ow (Kd.int .u32) 43 A3 c3 m.co) (Ow Kd.string 9 A1 c1 m.ex) ∧ Apart (Ow (Kd.int .u32) 43 A3 c3 m.co) (Ow Kd.string 9 A2 c2 m.im) ∧ Apart (Ow (Kd.int .u32) 43 A3 c3 m.co) (Ow (Kd.int .u32) 43 A4 c4 m.da) ∧ Apart (Ow (Kd.int .u32) 43 A3 c3 m.co) (Ow k50 50 A5 c5 m.re)) ∧ Below w.heap.size w w' := by
  obtain ⟨_, _, _, _, _, _, _, _, _, _, _, _, _, _, _, _, _, _, _, d⟩ := h.dec [] (by simp) (by simp)
  have hlo := h.lo
  have hle := h.le
  rw [List.append_nil, ← h.drop] at d
  refine (get_go A c xs w hC hc (by omega) (by omega) d (by omega) 0 h.chk xs h.enc).mono ?_
  rintro z w' ⟨h1, h2⟩
  unfold Got at h1
  rw [if_pos ⟨rfl, rfl, rfl⟩] at h1
  exact ⟨h1, h2⟩
/-- Bytes of no module are refused. -/
theorem get_no (A : Option Addr) (c : Nat) (xs : List Int) (w : World) (hC : Kd.C (Kd.int .u8) w A xs.length xs) (hc : xs.length ≤ c) (hl : xs.length ≤ 16384) (h : ∀ m, ¬ Lies m xs) :
    Calls Try.prog 17 #[.slice A xs.length c] w fun z w' => z = .returned (.tuple #[.agg #[.string ⟨#[]⟩, .slice none 0 0, .slice none 0 0, .slice none 0 0, .slice none 0 0, .slice none 0 0], .int .i64 4]) ∧ Below w.heap.size w w' := by
  by_cases h4 : xs.length < 4
  · exact get_short A c xs w h4
  obtain ⟨y0, e0, nm, a1, b1, n1, y1, e1, ex, a2, b2, n2, y2, e2, im, y3, e3, co, y4, e4, da, a5, b5, n5, y5, e5, re, d⟩ := dec_any (xs.drop 4) (by rw [List.length_drop]; omega)
  refine (get_go A c xs w hC hc (by omega) hl d (fun hn => ?_) _ rfl _ rfl).mono ?_
  · have e : xs.drop 4 = [] := List.drop_eq_nil_of_le (by omega)
    rw [e] at d
    have := (d.det dec_nil').2.1
    omega
  rintro z w' ⟨h1, h2⟩
  unfold Got at h1
  rw [if_neg (fun hh => h ⟨nm, ex, im, co, da, re⟩ ⟨hh.2.1, d.wf, hh.2.2⟩)] at h1
  exact ⟨h1, h2⟩
end Go.Proofs.Ytkoimdgpicmakaa.Ob
