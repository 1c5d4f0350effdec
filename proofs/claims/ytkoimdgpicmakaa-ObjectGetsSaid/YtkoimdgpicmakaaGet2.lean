/- A module is read (object.Get): what is read, ahead of the test. -/
import Derived.Test.YtkoimdgpicmakaaGet
import Derived.Test.YtkoimdgpicmakaaPut2
import Derived.Test.YtkoimdgpicmakaaZPd
namespace Go.Proofs.Ytkoimdgpicmakaa.Ob
open Go.Proofs.Ytkoimdgpicmakaa.Reader
open Go.RowKit Go.Proofs.Ytkoimdgpicmakaa.Sep Go.Proofs.YtkoimdgpicmakaaW.PrintWords Go.Proofs.YtkoimdgpicmakaaW.PrintLast Go.Proofs.Ytkoimdgpicmakaa.Wm Go.Proofs.Ytkoimdgpicmakaa.Ev Go.Proofs.Ytkoimdgpicmakaa.Ty Go.Proofs.Ytkoimdgpicmakaa.PB
set_option linter.unusedVariables false
set_option linter.unusedSimpArgs false

section
variable {B : Nat} {w W W' : World} {g gt : Nat} {xs xs' : List Int} {e e' : Int} {L : List Asn} {F F2 : Asn → List Asn}
theorem rx_stepN {a : Asn} (S : Aside0 (St 0 w W L)) (hB : B ≤ w.heap.size) (h1 : Spot L (RdX B w g xs e) F) (h2 : Spot L (Still w (fun k => ¬ k = g)) F2) (h : Rd B W' g xs' e') (T : Turn W W' g) (ha : a.pred W') (hf : ∀ k, a.foot k → W.heap.size ≤ k) : Aside0 (St 0 w W' (a :: F (RdX B w g xs' e'))) := by
  have S1 := (rx_step S hB h1 h2 h T).out
  obtain ⟨pre, post, e1, e2⟩ := h1.split
  refine ⟨S1.cons a ha (fun k _ => Nat.zero_le k) (fun b hb k hk1 hk2 => ?_)⟩
  have h3 := hf k hk1
  rw [e2] at hb
  have h4 : ∀ b, b ∈ L → b.foot k → False := fun b hb hk => by
    have := b.lt (S.out.holds b hb) k hk; omega
  rcases List.mem_append.1 hb with hb | hb
  · exact h4 b (by rw [e1]; exact List.mem_append.2 (.inl hb)) hk2
  · rcases List.mem_cons.1 hb with rfl | hb
    · exact h4 _ h1.mem (RdX.foot_iff.2 (RdX.foot_iff.1 hk2))
    · exact h4 b (by rw [e1]; exact List.mem_append.2 (.inr (List.mem_cons.2 (.inr hb)))) hk2
theorem words_rx (S : Aside0 (St 0 w W L)) (hB : B ≤ w.heap.size) (h1 : Spot L (RdX B w g xs e) F) (h2 : Spot L (Still w (fun k => ¬ k = g)) F2) (most : Int) (hx : xs.length ≤ 16384) {l ys : List Int} {f : Int} (hv : rWords xs e most = (ys, f, l)) :
    Calls Try.prog 45 #[.pointer (some ⟨g, 0, none⟩), .int .i64 most] W fun z W' => ∃ A c, z = .returned (.slice A l.length c) ∧ Aside0 (St 0 w W' (Ow (Kd.int .u32) 43 A c l :: F (RdX B w g ys f))) := by
  refine (wordsR g xs e most W (rx_at S hB h1 h2) (Nat.le_trans hB S.out.below.size) (by omega)).mono ?_
  rw [hv]
  rintro z W' ⟨⟨v, rfl, hR⟩, hr, hT⟩
  obtain ⟨A, c, rfl, _⟩ := Kd.R_reads hR
  exact ⟨A, c, rfl, rx_stepN S hB h1 h2 hr hT (Ow.mk rfl hR) (Ow.new hR)⟩
theorem list44_rx (S : Aside0 (St 0 w W L)) (hB : B ≤ w.heap.size) (h1 : Spot L (RdX B w g xs e) F) (h2 : Spot L (Still w (fun k => ¬ k = g)) F2) (hp : w.cell? ⟨gt, 0, none⟩ = some (.pointer (some ⟨g, 0, none⟩))) (hne : ¬ gt = g) (most : Int) {ys zs : List Int} {f f2 : Int} {n : Nat} {l : List ByteArray} (hv : rVar xs e most = (ys, f, (n : Int))) (hl : rList one39 n ys f = (zs, f2, l)) :
    Calls Try.prog 44 #[.pointer (some ⟨g, 0, none⟩), .int .u32 most, .func (.func 39) #[] #[.pointer (some ⟨gt, 0, none⟩)]] W fun z W' => ∃ A c, z = .returned (.slice A l.length c) ∧ Aside0 (St 0 w W' (Ow Kd.string 9 A c l :: F (RdX B w g zs f2))) := by
  have hn : n < 4294967296 := by have := (rVar_bd xs e most).2; rw [hv] at this; simp only at this; omega
  refine (list44_calls g gt xs e W (rx_at S hB h1 h2) (Nat.le_trans hB S.out.below.size) (old0_ S hp h2 hne) hne most hv hn hl).mono ?_
  rintro z W' ⟨A, c, rfl, hO, hN, hr, hT⟩
  exact ⟨A, c, rfl, rx_stepN S hB h1 h2 hr hT hO hN⟩
theorem list46_rx (S : Aside0 (St 0 w W L)) (hB : B ≤ w.heap.size) (h1 : Spot L (RdX B w g xs e) F) (h2 : Spot L (Still w (fun k => ¬ k = g)) F2) (hp : w.cell? ⟨gt, 0, none⟩ = some (.pointer (some ⟨g, 0, none⟩))) (hne : ¬ gt = g) (most : Int) {ys zs : List Int} {f f2 : Int} {n : Nat} {l : List S50} (hv : rVar xs e most = (ys, f, (n : Int))) (hl : rList rRel n ys f = (zs, f2, l)) :
    Calls Try.prog 46 #[.pointer (some ⟨g, 0, none⟩), .int .u32 most, .func (.func 41) #[] #[.pointer (some ⟨gt, 0, none⟩)]] W fun z W' => ∃ A c, z = .returned (.slice A l.length c) ∧ Aside0 (St 0 w W' (Ow k50 50 A c l :: F (RdX B w g zs f2))) := by
  have hn : n < 4294967296 := by have := (rVar_bd xs e most).2; rw [hv] at this; simp only at this; omega
  refine (list46_calls g gt xs e W (rx_at S hB h1 h2) (Nat.le_trans hB S.out.below.size) (old0_ S hp h2 hne) hne most hv hn hl).mono ?_
  rintro z W' ⟨A, c, rfl, hO, hN, hr, hT⟩
  exact ⟨A, c, rfl, rx_stepN S hB h1 h2 hr hT hO hN⟩
end
/-- A call of a closure without arguments. -/
theorem goesC_ {P : Program} {ops : Array Oper} {Q : Exit → Act → World → Prop} {oi : Oper} {N : Option Tmp} {a : Act} {w : World} {K : Act → World → Prop} {f : FuncId} {fn : Func} {x : Operand} {v : Value} (hf : P.funcs[f]? = some fn) (hname : (fn.name == "runtime.NumGoroutine") = false) (hb : fn.body.isSome = true)
    (hw : Region.wanted oi (yielded ops a.tmps) = true) (hN : oi.dst = N) {ts : Array TypeId} (hop : oi.op = .call { callee := .value x, args := #[], argTypes := ts }) (hx : a.eval x = .func (.func f) #[] #[v])
    (h : Calls P f #[v] w fun e w' => ∃ v, e = .returned v ∧ K (a.put N v) w') : if Region.wanted oi (yielded ops a.tmps) = true then Oper.wp P oi a w K Q else K (a.put N undef) w := by
  refine call_ f #[v] hw hN ?_ h
  have he := enters_ hf hname hb #[v] w
  unfold execOp
  simp [hop, resolve, Deferred.ofValue, invoke, hx, he]
/-- What is read of a module, part by part. -/
structure Dc (xs : List Int) (y0 : List Int) (e0 : Int) (nm : ByteArray) (a1 : List Int) (b1 : Int) (n1 : Nat) (y1 : List Int) (e1 : Int) (ex : List ByteArray) (a2 : List Int) (b2 : Int) (n2 : Nat) (y2 : List Int) (e2 : Int) (im : List ByteArray) (y3 : List Int) (e3 : Int) (co : List Int) (y4 : List Int) (e4 : Int) (da : List Int) (a5 : List Int) (b5 : Int) (n5 : Nat) (y5 : List Int) (e5 : Int) (re : List S50) : Prop where
  h0 : one39 xs 0 = (y0, e0, nm)
  h1 : rVar y0 e0 8 = (a1, b1, (n1 : Int))
  l1 : rList one39 n1 a1 b1 = (y1, e1, ex)
  h2 : rVar y1 e1 16 = (a2, b2, (n2 : Int))
  l2 : rList one39 n2 a2 b2 = (y2, e2, im)
  h3 : rWords y2 e2 512 = (y3, e3, co)
  h4 : rWords y3 e3 128 = (y4, e4, da)
  h5 : rVar y4 e4 256 = (a5, b5, (n5 : Int))
  l5 : rList rRel n5 a5 b5 = (y5, e5, re)
  k2 : y2.length ≤ 16384
  k3 : y3.length ≤ 16384

theorem eq_l0 (l0 l1 : List Int) (hl : l0.length = l1.length) (hm : l0.length ≤ 9223372036854775807) : ∀ (n i k : Nat), l0.length - i = n → i ≤ l0.length → n < k → PD.slices_Equal_byte_byte.l0 k l0 l1 (l0.length : Int) (i : Int) = some (decide (l0.drop i = l1.drop i))
  | n, i, 0, _, _, hk => by omega
  | n, i, k + 1, hn, hi, hk => by
    unfold PD.slices_Equal_byte_byte.l0
    by_cases h : i < l0.length
    · rw [if_pos (by omega), if_pos (by omega), if_pos (by omega), if_pos (by omega)]
      have hd0 : l0.drop i = l0[i] :: l0.drop (i + 1) := List.drop_eq_getElem_cons h
      have hd1 : l1.drop i = l1[i]'(by omega) :: l1.drop (i + 1) := List.drop_eq_getElem_cons (by omega)
      have e0 : rd l0 (i : Int) = l0[i] := by simp [rd, h]
      have e1 : rd l1 (i : Int) = l1[i]'(by omega) := by simp [rd, (by omega : i < l1.length)]
      rw [e0, e1]
      by_cases hx : l0[i] = l1[i]'(by omega)
      · rw [if_pos hx, w64 i (by omega), eq_l0 l0 l1 hl hm (n - 1) (i + 1) k (by omega) (by omega) (by omega)]
        congr 1
        apply decide_eq_decide.2
        constructor
        · intro h1; rw [hd0, hd1, hx, h1]
        · intro h1; rw [hd0, hd1] at h1; exact (List.cons.inj h1).2
      · rw [if_neg hx]
        congr 1
        exact (decide_eq_false (fun h1 => by rw [hd0, hd1] at h1; exact hx (List.cons.inj h1).1)).symm
    · rw [if_neg (by omega), List.drop_of_length_le (by omega), List.drop_of_length_le (by omega)]
      simp
theorem eq_f (l0 l1 : List Int) (hm : l0.length ≤ 9223372036854775807) : PD.slices_Equal_byte_byte.f (l0.length + 1) l0 l1 = some (decide (l0 = l1)) := by
  unfold PD.slices_Equal_byte_byte.f
  by_cases hl : l0.length = l1.length
  · rw [if_pos (by rw [hl])]
    have := eq_l0 l0 l1 hl hm l0.length 0 (l0.length + 1) (by omega) (by omega) (by omega)
    simpa using this
  · rw [if_neg (by omega)]
    have : ¬ l0 = l1 := fun e => hl (by rw [e])
    simp [this]
theorem still_split {B : Nat} {w W : World} {L : List Asn} {F : Asn → List Asn} {P P' : Nat → Prop} {g : Nat} {cs : Array Value} {t : TypeId} (S : Aside0 (St B w W L)) (hs : Spot L (Still w P) F) (hg : w.heap[g]? = some (.cells cs t (0, 0))) (hP : P g) (hP' : ∀ k, P' k → P k ∧ k ≠ g) : Aside0 (St B w W (Bk g cs t :: F (Still w P'))) := by
  have hlt : g < w.heap.size := (Array.getElem?_eq_some_iff.1 hg).1
  have hpr := pred_at S.out hs
  have hW : W.heap[g]? = some (.cells cs t (0, 0)) := (hpr g hP hlt).trans hg
  have S1 := (swap_at (b := Still w P') S.out hs (fun k h1 h2 => hpr k (hP' k h1).1 h2) (fun k hk => ⟨(hP' k hk.1).1, hk.2⟩))
  obtain ⟨pre, post, e1, e2⟩ := hs.split
  have hap : ∀ b, b ∈ pre ∨ b ∈ post → b.foot g → False := fun b hb hk => by
    have hp := S.out.apart
    rw [e1] at hp
    have hp := List.pairwise_append.1 hp
    have hst : (Still w P).foot g := ⟨hP, hlt⟩
    rcases hb with hb | hb
    · exact hp.2.2 b hb _ List.mem_cons_self g hk hst
    · exact (List.pairwise_cons.1 hp.2.1).1 b hb g hst hk
  refine ⟨S1.cons _ (Bk.of hW) (fun k hk => by rw [Bk.foot hk]; exact new_at S.out hs g ⟨hP, hlt⟩) (fun b hb k hk1 hk2 => ?_)⟩
  obtain rfl := Bk.foot hk1
  rw [e2] at hb
  rcases List.mem_append.1 hb with hb | hb
  · exact hap b (.inl hb) hk2
  · rcases List.mem_cons.1 hb with rfl | hb
    · exact (hP' _ hk2.1).2 rfl
    · exact hap b (.inr hb) hk2
theorem below_end {w w1 W : World} {g g2 : Nat} {L : List Asn} {F : Asn → List Asn} (S : Aside0 (St 0 w1.drew W L)) (hs : Spot L (Still w1.drew (fun k => ¬ (k = g ∨ k = g2))) F) (hW : Below w.heap.size w w1) (hg : w.heap.size ≤ g) (hg2 : w.heap.size ≤ g2) : Below w.heap.size w W :=
  ⟨S.out.below.os.trans hW.os, S.out.below.tape.trans hW.tape, S.out.below.output.trans hW.output, Nat.le_trans hW.size S.out.below.size, fun k hk => (pred_at S.out hs k (by omega) (Nat.lt_of_lt_of_le hk hW.size)).trans (hW.block k hk)⟩
theorem enc_max {nm : ByteArray} {ex im : List ByteArray} {co da : List Int} {re : List S50} (h : Okm nm ex im co da re) : (enc nm ex im co da re).length ≤ 9223372036854775807 := by
  unfold enc
  have hl0 := txt_len nm (by have := h.nnm; omega)
  have hl1 := texts_le ex (by have := h.nex; omega) h.exs
  have hl2 := texts_le im h.nim h.ims
  have hl3 := wds_le co h.nco
  have hl4 := wds_le da (by have := h.nda; omega)
  have hl5 := rels_le re h.nre
  have hl6 : magic.length = 4 := rfl
  simp only [List.length_append]
  omega
theorem put_okl (nm : ByteArray) (Aex : Option Addr) (cex : Nat) (ex : List ByteArray) (Aim : Option Addr) (cim : Nat) (im : List ByteArray) (Aco : Option Addr) (cco : Nat) (co : List Int) (Ada : Option Addr) (cda : Nat) (da : List Int) (Are : Option Addr) (cre : Nat) (re : List S50) (w : World) (h : Md w nm Aex cex ex Aim cim im Aco cco co Ada cda da Are cre re) (f : Int) (hf : chk nm ex im co da re = f) (hne : (f != 0) = false) (en : List Int) (hen : enc nm ex im co da re = en) :
    Calls Try.prog 12 #[.agg #[.string nm, .slice Aex ex.length cex, .slice Aim im.length cim, .slice Aco co.length cco, .slice Ada da.length cda, .slice Are re.length cre]] w fun z w' => ∃ A c, z = .returned (.tuple #[.slice A en.length c, .int .i64 0]) ∧ (Ow (Kd.int .u8) 5 A c en).pred w' ∧ (∀ k, (Ow (Kd.int .u8) 5 A c en).foot k → w.heap.size ≤ k) ∧ Below w.heap.size w w' := by
  subst hen
  exact put_ok nm Aex cex ex Aim cim im Aco cco co Ada cda da Are cre re w h f hf hne
theorem err_z {B : Nat} {w W : World} {g : Nat} {xs : List Int} {e : Int} {L : List Asn} {F : Asn → List Asn} (S : Aside0 (St 0 w W L)) (h1 : Spot L (RdX B w g xs e) F) :
    Calls Try.prog 47 #[.pointer (some ⟨g, 0, none⟩)] W fun z W' => z = .returned (.int .i64 e) ∧ Aside0 (St 0 w W' L) := by
  obtain ⟨A, c, k1, _⟩ := RdX.open (pred_at S.out h1)
  refine (err_calls g A _ c e W k1).mono ?_
  rintro z W' ⟨rfl, rfl⟩
  exact ⟨rfl, S⟩
theorem old_still {B : Nat} {w W : World} {L : List Asn} {F : Asn → List Asn} {P : Nat → Prop} {ad : Addr} {v : Value} (S : Aside0 (St B w W L)) (hs : Spot L (Still w P) F) (hp : w.cell? ad = some v) (hP : P ad.block) : W.cell? ad = some v := by
  have hl := World.block_lt_of_cell? w ad hp
  have T := pred_at S.out hs ad.block hP hl
  unfold World.cell? at hp ⊢
  rw [T]
  exact hp
theorem C_spot {k : IntKind} {W : World} {A : Option Addr} {n : Nat} {xs : List Int} (h : Kd.C (Kd.int k) W A n xs) (hn : 0 < n) : ∃ b o, A = some ⟨b, o, none⟩ := by
  obtain ⟨ad, e, hr⟩ := h.2.2 hn
  have hl := h.1
  obtain ⟨p, hp⟩ : ∃ p, xs[0]? = some p := ⟨_, List.getElem?_eq_getElem (by omega)⟩
  obtain ⟨cs, h1, h2, h3⟩ := hr 0 p hp
  obtain rfl : cs = [.int k p] := h2
  have h4 := h3 0 _ rfl
  rcases ad with ⟨b, o, s⟩
  cases s with
  | none => exact ⟨b, o, e⟩
  | some s =>
    have e2 : ((⟨b, o, some s⟩ : Addr).add (0 * (Kd.int k).sz + 0)).spot.isSome = true := by unfold Addr.add; split <;> simp_all
    unfold World.cell? at h4
    rw [e2] at h4
    split at h4
    · simp at h4
    · cases h4
theorem new_w1 {A : Option Addr} {xs : List Int} {w W : World} (h4 : 4 ≤ xs.length) (hc : xs.length ≤ 4) (hb : Below w.heap.size w W) :
    Calls Try.prog 38 #[.slice A (xs.length - 4) 0] W fun z W' => ∃ g, z = .returned (.pointer (some ⟨g, 0, none⟩)) ∧ (Rd (g + 1) W' g (xs.drop 4) 0 ∧ W.heap.size ≤ g ∧ g < W'.heap.size) ∧ Below W.heap.size W W' := by
  have e : xs.drop 4 = [] := List.drop_eq_nil_of_le hc
  have e2 : xs.length - 4 = 0 := by omega
  rw [e, e2]
  have c_ := newR A [] 0 W ⟨rfl, by simp, fun h => absurd h (by simp)⟩ (Nat.le_refl _)
  simp only [List.length_nil] at c_
  refine c_.mono ?_
  rintro z W' ⟨rfl, hR, hB, hl⟩
  exact ⟨_, rfl, ⟨hR, Nat.le_refl _, hl⟩, hB⟩
theorem new_w {A : Option Addr} {c : Nat} {xs : List Int} {w W : World} (hC : Kd.C (Kd.int .u8) w A xs.length xs) (h4 : 4 ≤ xs.length) (hc : xs.length ≤ c) (hb : Below w.heap.size w W) (hn : ¬ c = 4) :
    Calls Try.prog 38 #[.slice (Option.map (fun x => ({ block := x.block, off := x.off + 4 } : Addr)) A) (xs.length - 4) (c - 4)] W fun z W' => ∃ g, z = .returned (.pointer (some ⟨g, 0, none⟩)) ∧ (Rd (g + 1) W' g (xs.drop 4) 0 ∧ W.heap.size ≤ g ∧ g < W'.heap.size) ∧ Below W.heap.size W W' := by
  obtain ⟨b, o, rfl⟩ := C_spot hC (by omega)
  have h1 := Kd.C_drop (c := c) (Kd.C_below hC hb) h4 hc
  rw [if_neg hn] at h1
  have e : (xs.drop 4).length = xs.length - 4 := List.length_drop
  have e3 : (Option.map (fun x : Addr => x.add (4 * (Kd.int .u8).sz)) (some ⟨b, o, none⟩)) = some ⟨b, o + 4, none⟩ := by
    simp only [Option.map_some, Option.some.injEq]
    unfold Addr.add; simp [show (Kd.int .u8).sz = 1 from rfl]
  have h2 : Kd.C (Kd.int .u8) W (some ⟨b, o + 4, none⟩) (xs.drop 4).length (xs.drop 4) := by rw [← e3]; exact h1
  have c_ := newR (some ⟨b, o + 4, none⟩) (xs.drop 4) (c - 4) W h2 (by rw [e]; omega)
  rw [e] at c_
  refine c_.mono ?_
  rintro z W' ⟨rfl, hR, hB, hl⟩
  exact ⟨_, rfl, ⟨hR, Nat.le_refl _, hl⟩, hB⟩
/-- What Get hands back. -/
def Got (w : World) (xs : List Int) (nm : ByteArray) (ex im : List ByteArray) (co da : List Int) (re : List S50) (e5 f : Int) (en : List Int) (z : Ending) (w' : World) : Prop :=
  if e5 = 0 ∧ f = 0 ∧ en = xs then ∃ A1 c1 A2 c2 A3 c3 A4 c4 A5 c5, z = .returned (.tuple #[.agg #[.string nm, .slice A1 ex.length c1, .slice A2 im.length c2, .slice A3 co.length c3, .slice A4 da.length c4, .slice A5 re.length c5], .int .i64 0]) ∧ (Ow Kd.string 9 A1 c1 ex).pred w' ∧ (Ow Kd.string 9 A2 c2 im).pred w' ∧ (Ow (Kd.int .u32) 43 A3 c3 co).pred w' ∧ (Ow (Kd.int .u32) 43 A4 c4 da).pred w' ∧ (Ow k50 50 A5 c5 re).pred w' ∧ (∀ k, (Ow Kd.string 9 A1 c1 ex).foot k → w.heap.size ≤ k) ∧ (∀ k, (Ow Kd.string 9 A2 c2 im).foot k → w.heap.size ≤ k) ∧ (∀ k, (Ow (Kd.int .u32) 43 A3 c3 co).foot k → w.heap.size ≤ k) ∧ (∀ k, (Ow (Kd.int .u32) 43 A4 c4 da).foot k → w.heap.size ≤ k) ∧ (∀ k, (Ow k50 50 A5 c5 re).foot k → w.heap.size ≤ k) ∧ Apart (Ow (Kd.int .u32) 43 A3 c3 co) (Ow Kd.string 9 A1 c1 ex) ∧ Apart (Ow (Kd.int .u32) 43 A3 c3 co) (Ow Kd.string 9 A2 c2 im) ∧ Apart (Ow (Kd.int .u32) 43 A3 c3 co) (Ow (Kd.int .u32) 43 A4 c4 da) ∧ Apart (Ow (Kd.int .u32) 43 A3 c3 co) (Ow k50 50 A5 c5 re)
      else z = .returned (.tuple #[.agg #[.string ⟨#[]⟩, .slice none 0 0, .slice none 0 0, .slice none 0 0, .slice none 0 0, .slice none 0 0], .int .i64 4])
set_option maxRecDepth 100000 in
set_option maxHeartbeats 16000000 in
theorem get_go (A : Option Addr) (c : Nat) (xs : List Int) (w : World) (hC : Kd.C (Kd.int .u8) w A xs.length xs) (hc : xs.length ≤ c) (h4 : 4 ≤ xs.length) (h5 : xs.length ≤ 16384) {y0 : List Int} {e0 : Int} {nm : ByteArray} {a1 : List Int} {b1 : Int} {n1 : Nat} {y1 : List Int} {e1 : Int} {ex : List ByteArray} {a2 : List Int} {b2 : Int} {n2 : Nat} {y2 : List Int} {e2 : Int} {im : List ByteArray} {y3 : List Int} {e3 : Int} {co : List Int} {y4 : List Int} {e4 : Int} {da : List Int} {a5 : List Int} {b5 : Int} {n5 : Nat} {y5 : List Int} {e5 : Int} {re : List S50} (hd : Dc (xs.drop 4) y0 e0 nm a1 b1 n1 y1 e1 ex a2 b2 n2 y2 e2 im y3 e3 co y4 e4 da a5 b5 n5 y5 e5 re) (hn4 : ¬ (c = 4 ∧ e5 = 0)) (f : Int) (hf : chk nm ex im co da re = f) (en : List Int) (hen : enc nm ex im co da re = en) :
    Calls Try.prog 17 #[.slice A xs.length c] w fun z w' => Got w xs nm ex im co da re e5 f en z w' ∧ Below w.heap.size w w' := by
  have HF := Aside0.mk hf
  have HEN := Aside0.mk hen
  clear hf hen
  have HC := Aside0.mk hC
  have HD := Aside0.mk hd
  have S := Aside0.mk (St.start w)
  have d1 : decide ((xs.length : Int) > 16384) = false := decide_eq_false (by omega)
  have d2 : decide ((xs.length : Int) < 4) = false := decide_eq_false (by omega)
  have hl4 : (4 : Int) ≤ (xs.length : Int) := by omega
  clear hC hd
  go_enter Try.func17, Try.ntmps17
  go_wp2_with (first | ((with_reducible refine gate_dst (N := 2) rfl ?_); refine ev_alloc #[.string ⟨#[]⟩, .slice none 0 0, .slice none 0 0, .slice none 0 0, .slice none 0 0, .slice none 0 0] rfl S ?_ 2 rfl rfl z26 ?_; (first | exact want0 rfl | exact want1 rfl rfl rfl rfl); intro g2 w2 S_; clear S; have S := S_; clear S_) | (refine ev_puts S ?_ rfl rfl s26 rfl rfl (by repeat (first | exact Spot.here _ _ | apply Spot.there)) rfl ?_ ?_ ?_; (first | exact want0 rfl | exact want1 rfl rfl rfl rfl); rfl; rfl; intro w_ S_; simp only [putAt, List.set_cons_zero, List.set_cons_succ] at S_; clear S; have S := S_; clear S_) | ((with_reducible refine gate_dst (N := 4) rfl ?_); refine ev_alloc #[.pointer none] rfl S ?_ 4 rfl rfl z67 ?_; (first | exact want0 rfl | exact want1 rfl rfl rfl rfl); intro g4 w4 S_; clear S; have S := S_; clear S_) | (refine ev_put1 S ?_ rfl rfl s67 rfl rfl (by repeat (first | exact Spot.here _ _ | apply Spot.there)) ?_ ?_ ?_; (first | exact want0 rfl | exact want1 rfl rfl rfl rfl); rfl; rfl; intro w_ S_; simp only [putAt, List.set_cons_zero, List.set_cons_succ] at S_; clear S; have S := S_; clear S_) | (refine ev_own1 S ?_ rfl o67 rfl (by repeat (first | exact Spot.here _ _ | apply Spot.there)) (by exact rfl) ?_; (first | exact want0 rfl | exact want1 rfl rfl rfl rfl)) | ((with_reducible refine gate_dst (N := 7) rfl ?_); refine ev_alloc #[.string ⟨#[]⟩, .slice none 0 0, .slice none 0 0, .slice none 0 0, .slice none 0 0, .slice none 0 0] rfl S ?_ 7 rfl rfl z26 ?_; (first | exact want0 rfl | exact want1 rfl rfl rfl rfl); intro g7 w7 S_; clear S; have S := S_; clear S_) | (refine ev_owns (vs := [_, _, _, _, _, _]) S ?_ rfl m26 rfl (by repeat (first | exact Spot.here _ _ | apply Spot.there)) (by exact rfl) ?_; (first | exact want0 rfl | exact want1 rfl rfl rfl rfl)) | (go_at_call 38; (with_reducible refine (new_w1 (xs := xs) h4 (by omega) S.out.below).mono ?_); rintro z_ w_ ⟨g, rfl, hr_, hb_⟩; have HL2 := Aside0.mk ((Bk g2 #[.string ⟨#[]⟩, .slice none 0 0, .slice none 0 0, .slice none 0 0, .slice none 0 0, .slice none 0 0] 26).lt (pred_at S.out (by repeat (first | exact Spot.here _ _ | apply Spot.there))) g2 Bk.at); have S0 := Aside0.mk (Aside0.mk (S.out.keep hb_)); have HG0 := Aside0.mk (Nat.le_trans S.out.below.size hr_.2.1); clear S hb_; have HR := Aside0.mk hr_; clear hr_; have S := Aside0.mk (St.start w_)) | (go_at_call 38; (with_reducible refine (new_w HC.out h4 hc S.out.below (by assumption)).mono ?_); rintro z_ w_ ⟨g, rfl, hr_, hb_⟩; have HL2 := Aside0.mk ((Bk g2 #[.string ⟨#[]⟩, .slice none 0 0, .slice none 0 0, .slice none 0 0, .slice none 0 0, .slice none 0 0] 26).lt (pred_at S.out (by repeat (first | exact Spot.here _ _ | apply Spot.there))) g2 Bk.at); have S0 := Aside0.mk (Aside0.mk (S.out.keep hb_)); have HG0 := Aside0.mk (Nat.le_trans S.out.below.size hr_.2.1); clear S hb_; have HR := Aside0.mk hr_; clear hr_; have S := Aside0.mk (St.start w_)))
  all_goals
    try (have hc4 : c = 4 := by assumption; subst hc4)
    have hne : ¬ g4 = g := fun e => by have h1 := new_at S.out (by repeat (first | exact Spot.here _ _ | apply Spot.there)) g4 Bk.at; have h2 := HR.out.2.2; omega
    have HP := Aside0.mk (show w_.drew.cell? ⟨g4, 0, none⟩ = some (.pointer (some ⟨g, 0, none⟩)) from (own_cell (g := g4) S (by repeat (first | exact Spot.here _ _ | apply Spot.there)) 0).trans rfl)
    have HRD := Aside0.mk ((HR.out.1.below (S.out.below.mono HR.out.2.2)).below ((Below.refl _ _).drew : Below (g + 1) w_ w_.drew))
    have hB : g + 1 ≤ w_.drew.heap.size := Nat.le_trans HR.out.2.2 S.out.below.size
    have HW := Aside0.mk (S0.out.out.keep S.out.below).below
    have HG2 := Aside0.mk (pred_at (S0.out.out.keep S.out.below) (by repeat (first | exact Spot.here _ _ | apply Spot.there)))
    have HG2H := Aside0.mk (Bk.heap HG2.out)
    have HN2 := Aside0.mk (new_at (S0.out.out.keep S.out.below) (by repeat (first | exact Spot.here _ _ | apply Spot.there)) g2 Bk.at)
    have hg2 : ¬ g2 = g := fun e => by have h1 := HL2.out; have h2 := HR.out.2.1; omega
    have hg24 : ¬ g4 = g2 := fun e => by have h1 := new_at S.out (by repeat (first | exact Spot.here _ _ | apply Spot.there)) g4 Bk.at; have h2 := (Bk g2 #[.string ⟨#[]⟩, .slice none 0 0, .slice none 0 0, .slice none 0 0, .slice none 0 0, .slice none 0 0] 26).lt (pred_at S0.out.out (by repeat (first | exact Spot.here _ _ | apply Spot.there))) g2 Bk.at; omega
    have HLE := Aside0.mk (show w.heap.size ≤ w_.drew.heap.size from HW.out.size)
    have S2 := rx_start HRD.out
    clear S S0 HR
    refine start_ (n := 18) (S := fun w' => w'.cell? ⟨g4, 0, none⟩ = some (.pointer (some ⟨g, 0, none⟩))) (ds := []) #[false, false, false, false, false, false, false, false, false, false, false, false, false, false, false, false, false, false] (by kernel_rfl) rfl rfl ((old0_ S2 HP.out (by repeat (first | exact Spot.here _ _ | apply Spot.there)) hne)) (fun hHeld => ?_)
    refine pure_ (i := 0) (N := some 25) (v := ?_) (a' := ?_) #[true, false, false, false, false, false, false, false, false, false, false, false, false, false, false, false, false, false] rfl rfl (by kernel_rfl) (fun _ _ _ h => h) (Or.inl ⟨by rfl, ?_⟩) ?_ ?_
    rotate_left
    · intro w'
      go_simp
      with_reducible rfl
    rotate_left
    · simp only [Act.put, List.setIfInBounds_toArray, List.set_cons_zero, List.set_cons_succ, i64_w, i32_w]
      rfl
    refine pure_ (i := 3) (N := some 28) (v := ?_) (a' := ?_) #[true, false, false, true, false, false, false, false, false, false, false, false, false, false, false, false, false, false] rfl rfl (by kernel_rfl) (fun _ _ _ h => h) (Or.inl ⟨by rfl, ?_⟩) ?_ ?_
    rotate_left
    · intro w'
      go_simp
      with_reducible rfl
    rotate_left
    · simp only [Act.put, List.setIfInBounds_toArray, List.set_cons_zero, List.set_cons_succ, i64_w, i32_w]
      rfl
    refine pure_ (i := 6) (N := some 31) (v := ?_) (a' := ?_) #[true, false, false, true, false, false, true, false, false, false, false, false, false, false, false, false, false, false] rfl rfl (by kernel_rfl) (fun _ _ _ h => h) (Or.inl ⟨by rfl, ?_⟩) ?_ ?_
    rotate_left
    · intro w'
      go_simp
      with_reducible rfl
    rotate_left
    · simp only [Act.put, List.setIfInBounds_toArray, List.set_cons_zero, List.set_cons_succ, i64_w, i32_w]
      rfl
    refine pure_ (i := 13) (N := some 38) (v := ?_) (a' := ?_) #[true, false, false, true, false, false, true, false, false, false, false, false, false, true, false, false, false, false] rfl rfl (by kernel_rfl) (fun _ _ _ h => h) (Or.inl ⟨by rfl, ?_⟩) ?_ ?_
    rotate_left
    · intro w'
      go_simp
      with_reducible rfl
    rotate_left
    · simp only [Act.put, List.setIfInBounds_toArray, List.set_cons_zero, List.set_cons_succ, i64_w, i32_w]
      rfl
    refine take_ (i := 2) (N := some 27) (v := ?_) (a' := ?_) #[true, false, true, true, false, false, true, false, false, false, false, false, false, true, false, false, false, false] rfl rfl (by kernel_rfl) (fun _ _ _ h => h) (Or.inl ⟨by rfl, ?_⟩) hHeld ?_ ?_
    rotate_left
    · intro w' s0
      go_simp
      with_reducible rfl
    rotate_left
    · simp only [Act.put, List.setIfInBounds_toArray, List.set_cons_zero, List.set_cons_succ, i64_w, i32_w]
      rfl
    refine take_ (i := 5) (N := some 30) (v := ?_) (a' := ?_) #[true, false, true, true, false, true, true, false, false, false, false, false, false, true, false, false, false, false] rfl rfl (by kernel_rfl) (fun _ _ _ h => h) (Or.inl ⟨by rfl, ?_⟩) hHeld ?_ ?_
    rotate_left
    · intro w' s0
      go_simp
      with_reducible rfl
    rotate_left
    · simp only [Act.put, List.setIfInBounds_toArray, List.set_cons_zero, List.set_cons_succ, i64_w, i32_w]
      rfl
    refine take_ (i := 8) (N := some 33) (v := ?_) (a' := ?_) #[true, false, true, true, false, true, true, false, true, false, false, false, false, true, false, false, false, false] rfl rfl (by kernel_rfl) (fun _ _ _ h => h) (Or.inl ⟨by rfl, ?_⟩) hHeld ?_ ?_
    rotate_left
    · intro w' s0
      go_simp
      with_reducible rfl
    rotate_left
    · simp only [Act.put, List.setIfInBounds_toArray, List.set_cons_zero, List.set_cons_succ, i64_w, i32_w]
      rfl
    refine take_ (i := 10) (N := some 35) (v := ?_) (a' := ?_) #[true, false, true, true, false, true, true, false, true, false, true, false, false, true, false, false, false, false] rfl rfl (by kernel_rfl) (fun _ _ _ h => h) (Or.inl ⟨by rfl, ?_⟩) hHeld ?_ ?_
    rotate_left
    · intro w' s0
      go_simp
      with_reducible rfl
    rotate_left
    · simp only [Act.put, List.setIfInBounds_toArray, List.set_cons_zero, List.set_cons_succ, i64_w, i32_w]
      rfl
    refine take_ (i := 12) (N := some 37) (v := ?_) (a' := ?_) #[true, false, true, true, false, true, true, false, true, false, true, false, true, true, false, false, false, false] rfl rfl (by kernel_rfl) (fun _ _ _ h => h) (Or.inl ⟨by rfl, ?_⟩) hHeld ?_ ?_
    rotate_left
    · intro w' s0
      go_simp
      with_reducible rfl
    rotate_left
    · simp only [Act.put, List.setIfInBounds_toArray, List.set_cons_zero, List.set_cons_succ, i64_w, i32_w]
      rfl
    refine join_ (σ := Nat × (Option Addr × Nat) × (Option Addr × Nat) × (Option Addr × Nat) × (Option Addr × Nat) × (Option Addr × Nat)) 1 #[true, true, true, true, true, true, true, true, true, true, true, true, true, true, true, true, true, false] (fun s => [(26, .string nm), (29, .slice s.2.1.1 ex.length s.2.1.2), (32, .slice s.2.2.1.1 im.length s.2.2.1.2), (34, .slice s.2.2.2.1.1 co.length s.2.2.2.1.2), (36, .slice s.2.2.2.2.1.1 da.length s.2.2.2.2.1.2), (39, .slice s.2.2.2.2.2.1 re.length s.2.2.2.2.2.2), (7, .pointer (some ⟨s.1, 0, none⟩)), (40, .agg #[.string nm, .slice s.2.1.1 ex.length s.2.1.2, .slice s.2.2.1.1 im.length s.2.2.1.2, .slice s.2.2.2.1.1 co.length s.2.2.2.1.2, .slice s.2.2.2.2.1.1 da.length s.2.2.2.2.1.2, .slice s.2.2.2.2.2.1 re.length s.2.2.2.2.2.2])]) (fun s w' => Aside0 (St 0 w_.drew w' [Bk s.1 #[.string ⟨#[]⟩, .slice none 0 0, .slice none 0 0, .slice none 0 0, .slice none 0 0, .slice none 0 0] 26, Ow k50 50 s.2.2.2.2.2.1 s.2.2.2.2.2.2 re, Ow (Kd.int .u32) 43 s.2.2.2.2.1.1 s.2.2.2.2.1.2 da, Ow (Kd.int .u32) 43 s.2.2.2.1.1 s.2.2.2.1.2 co, Ow Kd.string 9 s.2.2.1.1 s.2.2.1.2 im, Ow Kd.string 9 s.2.1.1 s.2.1.2 ex, RdX (g + 1) w_.drew g y5 e5, Still w_.drew (fun k => ¬ k = g)])) ?_ ?_
    rotate_left
    · intro hCont
      refine two_ (i := 1) (j := 16) (Ni := some 26) (Nj := some 7) #[true, true, true, true, false, true, true, false, true, false, true, false, true, true, false, false, false, false] #[true, false, true, true, false, true, true, false, true, false, true, false, true, true, false, false, true, false] rfl rfl rfl rfl (by kernel_rfl) (by decide) (by decide) (fun K hK => ?_) (fun K hK => ?_)
      · skip
        refine goesC_ (f := 39) Try.func39 (by kernel_rfl) rfl (by rfl) rfl rfl rfl ?_
        with_reducible refine (text39_rx S2 hB (by repeat (first | exact Spot.here _ _ | apply Spot.there)) (by repeat (first | exact Spot.here _ _ | apply Spot.there)) HP.out hne HD.out.h0).mono ?_
        rintro z9 w26 ⟨rfl, S26⟩
        (try dsimp only at S26)
        refine ⟨_, rfl, ?_⟩
        refine hK.out _ _ ((old0_ S26 HP.out (by repeat (first | exact Spot.here _ _ | apply Spot.there)) hne)) (fun hHeld => ?_)
        clear hK K
        refine norm_ (a' := ?_) ?_ ?_
        rotate_left
        · show Act.put _ (some 26) _ = _
          simp only [Act.put, List.setIfInBounds_toArray, List.set_cons_zero, List.set_cons_succ, i64_w, i32_w]
          rfl
        refine two_ (i := 4) (j := 16) (Ni := some 29) (Nj := some 7) #[true, true, true, true, true, true, true, false, true, false, true, false, true, true, false, false, false, false] #[true, true, true, true, false, true, true, false, true, false, true, false, true, true, false, false, true, false] rfl rfl rfl rfl (by kernel_rfl) (by decide) (by decide) (fun K hK => ?_) (fun K hK => ?_)
        · skip
          refine goes_ Try.func44 (by kernel_rfl) rfl #[.pointer (some ⟨g, 0, none⟩), .int .u32 8, .func (.func 39) #[] #[.pointer (some ⟨g4, 0, none⟩)]] (by rfl) rfl rfl (by simp only [List.map_toArray, List.map_cons, List.map_nil]; rfl) ?_
          with_reducible refine (list44_rx S26 hB (by repeat (first | exact Spot.here _ _ | apply Spot.there)) (by repeat (first | exact Spot.here _ _ | apply Spot.there)) HP.out hne 8 HD.out.h1 HD.out.l1).mono ?_
          rintro z9 w29 ⟨A29, c29, rfl, S29⟩
          (try dsimp only at S29)
          refine ⟨_, rfl, ?_⟩
          refine hK.out _ _ ((old0_ S29 HP.out (by repeat (first | exact Spot.here _ _ | apply Spot.there)) hne)) (fun hHeld => ?_)
          clear hK K
          refine norm_ (a' := ?_) ?_ ?_
          rotate_left
          · show Act.put _ (some 29) _ = _
            simp only [Act.put, List.setIfInBounds_toArray, List.set_cons_zero, List.set_cons_succ, i64_w, i32_w]
            rfl
          refine two_ (i := 7) (j := 16) (Ni := some 32) (Nj := some 7) #[true, true, true, true, true, true, true, true, true, false, true, false, true, true, false, false, false, false] #[true, true, true, true, true, true, true, false, true, false, true, false, true, true, false, false, true, false] rfl rfl rfl rfl (by kernel_rfl) (by decide) (by decide) (fun K hK => ?_) (fun K hK => ?_)
          · skip
            refine goes_ Try.func44 (by kernel_rfl) rfl #[.pointer (some ⟨g, 0, none⟩), .int .u32 16, .func (.func 39) #[] #[.pointer (some ⟨g4, 0, none⟩)]] (by rfl) rfl rfl (by simp only [List.map_toArray, List.map_cons, List.map_nil]; rfl) ?_
            with_reducible refine (list44_rx S29 hB (by repeat (first | exact Spot.here _ _ | apply Spot.there)) (by repeat (first | exact Spot.here _ _ | apply Spot.there)) HP.out hne 16 HD.out.h2 HD.out.l2).mono ?_
            rintro z9 w32 ⟨A32, c32, rfl, S32⟩
            (try dsimp only at S32)
            refine ⟨_, rfl, ?_⟩
            refine hK.out _ _ ((old0_ S32 HP.out (by repeat (first | exact Spot.here _ _ | apply Spot.there)) hne)) (fun hHeld => ?_)
            clear hK K
            refine norm_ (a' := ?_) ?_ ?_
            rotate_left
            · show Act.put _ (some 32) _ = _
              simp only [Act.put, List.setIfInBounds_toArray, List.set_cons_zero, List.set_cons_succ, i64_w, i32_w]
              rfl
            refine two_ (i := 9) (j := 16) (Ni := some 34) (Nj := some 7) #[true, true, true, true, true, true, true, true, true, true, true, false, true, true, false, false, false, false] #[true, true, true, true, true, true, true, true, true, false, true, false, true, true, false, false, true, false] rfl rfl rfl rfl (by kernel_rfl) (by decide) (by decide) (fun K hK => ?_) (fun K hK => ?_)
            · skip
              refine goes_ Try.func45 (by kernel_rfl) rfl #[.pointer (some ⟨g, 0, none⟩), .int .i64 512] (by rfl) rfl rfl (by simp only [List.map_toArray, List.map_cons, List.map_nil]; rfl) ?_
              with_reducible refine (words_rx S32 hB (by repeat (first | exact Spot.here _ _ | apply Spot.there)) (by repeat (first | exact Spot.here _ _ | apply Spot.there)) 512 HD.out.k2 HD.out.h3).mono ?_
              rintro z9 w34 ⟨A34, c34, rfl, S34⟩
              (try dsimp only at S34)
              refine ⟨_, rfl, ?_⟩
              refine hK.out _ _ ((old0_ S34 HP.out (by repeat (first | exact Spot.here _ _ | apply Spot.there)) hne)) (fun hHeld => ?_)
              clear hK K
              refine norm_ (a' := ?_) ?_ ?_
              rotate_left
              · show Act.put _ (some 34) _ = _
                simp only [Act.put, List.setIfInBounds_toArray, List.set_cons_zero, List.set_cons_succ, i64_w, i32_w]
                rfl
              refine two_ (i := 11) (j := 16) (Ni := some 36) (Nj := some 7) #[true, true, true, true, true, true, true, true, true, true, true, true, true, true, false, false, false, false] #[true, true, true, true, true, true, true, true, true, true, true, false, true, true, false, false, true, false] rfl rfl rfl rfl (by kernel_rfl) (by decide) (by decide) (fun K hK => ?_) (fun K hK => ?_)
              · skip
                refine goes_ Try.func45 (by kernel_rfl) rfl #[.pointer (some ⟨g, 0, none⟩), .int .i64 128] (by rfl) rfl rfl (by simp only [List.map_toArray, List.map_cons, List.map_nil]; rfl) ?_
                with_reducible refine (words_rx S34 hB (by repeat (first | exact Spot.here _ _ | apply Spot.there)) (by repeat (first | exact Spot.here _ _ | apply Spot.there)) 128 HD.out.k3 HD.out.h4).mono ?_
                rintro z9 w36 ⟨A36, c36, rfl, S36⟩
                (try dsimp only at S36)
                refine ⟨_, rfl, ?_⟩
                refine hK.out _ _ ((old0_ S36 HP.out (by repeat (first | exact Spot.here _ _ | apply Spot.there)) hne)) (fun hHeld => ?_)
                clear hK K
                refine norm_ (a' := ?_) ?_ ?_
                rotate_left
                · show Act.put _ (some 36) _ = _
                  simp only [Act.put, List.setIfInBounds_toArray, List.set_cons_zero, List.set_cons_succ, i64_w, i32_w]
                  rfl
                refine two_ (i := 14) (j := 16) (Ni := some 39) (Nj := some 7) #[true, true, true, true, true, true, true, true, true, true, true, true, true, true, true, false, false, false] #[true, true, true, true, true, true, true, true, true, true, true, true, true, true, false, false, true, false] rfl rfl rfl rfl (by kernel_rfl) (by decide) (by decide) (fun K hK => ?_) (fun K hK => ?_)
                · skip
                  refine goes_ Try.func46 (by kernel_rfl) rfl #[.pointer (some ⟨g, 0, none⟩), .int .u32 256, .func (.func 41) #[] #[.pointer (some ⟨g4, 0, none⟩)]] (by rfl) rfl rfl (by simp only [List.map_toArray, List.map_cons, List.map_nil]; rfl) ?_
                  with_reducible refine (list46_rx S36 hB (by repeat (first | exact Spot.here _ _ | apply Spot.there)) (by repeat (first | exact Spot.here _ _ | apply Spot.there)) HP.out hne 256 HD.out.h5 HD.out.l5).mono ?_
                  rintro z9 w39 ⟨A39, c39, rfl, S39⟩
                  (try dsimp only at S39)
                  refine ⟨_, rfl, ?_⟩
                  refine hK.out _ _ ((old0_ S39 HP.out (by repeat (first | exact Spot.here _ _ | apply Spot.there)) hne)) (fun hHeld => ?_)
                  clear hK K
                  refine norm_ (a' := ?_) ?_ ?_
                  rotate_left
                  · show Act.put _ (some 39) _ = _
                    simp only [Act.put, List.setIfInBounds_toArray, List.set_cons_zero, List.set_cons_succ, i64_w, i32_w]
                    rfl
                  refine pure_ (i := 15) (N := some 40) (v := ?_) (a' := ?_) #[true, true, true, true, true, true, true, true, true, true, true, true, true, true, true, true, false, false] rfl rfl (by kernel_rfl) (fun _ _ _ h => h) (Or.inl ⟨by rfl, ?_⟩) ?_ ?_
                  rotate_left
                  · intro w'
                    go_simp
                    with_reducible rfl
                  rotate_left
                  · simp only [Act.put, List.setIfInBounds_toArray, List.set_cons_zero, List.set_cons_succ, i64_w, i32_w]
                    rfl
                  refine one_ (i := 16) (N := some 7) #[true, true, true, true, true, true, true, true, true, true, true, true, true, true, true, true, true, false] rfl rfl (by kernel_rfl) (by decide) (fun K hK => ?_)
                  refine st_alloc #[.string ⟨#[]⟩, .slice none 0 0, .slice none 0 0, .slice none 0 0, .slice none 0 0, .slice none 0 0] rfl S39 (by rfl) 7 rfl rfl z26 ?_
                  intro g7 w7 S7
                  refine hK.out _ _ ((old0_ S7 HP.out (by repeat (first | exact Spot.here _ _ | apply Spot.there)) hne)) (fun hHeld => ?_)
                  clear hK K
                  refine norm_ (a' := ?_) ?_ ?_
                  rotate_left
                  · show Act.put _ (some 7) _ = _
                    simp only [Act.put, List.setIfInBounds_toArray, List.set_cons_zero, List.set_cons_succ, i64_w, i32_w]
                    rfl
                  exact norm_ (by simp only [putAll, Act.put, List.setIfInBounds_toArray, List.set_cons_zero, List.set_cons_succ]) (hCont (g7, (A29, c29), (A32, c32), (A34, c34), (A36, c36), (A39, c39)) _ S7)
                · skip
                  refine st_alloc #[.string ⟨#[]⟩, .slice none 0 0, .slice none 0 0, .slice none 0 0, .slice none 0 0, .slice none 0 0] rfl S36 (by rfl) 7 rfl rfl z26 ?_
                  intro g7 w7 S7
                  refine hK.out _ _ ((old0_ S7 HP.out (by repeat (first | exact Spot.here _ _ | apply Spot.there)) hne)) (fun hHeld => ?_)
                  clear hK K
                  refine norm_ (a' := ?_) ?_ ?_
                  rotate_left
                  · show Act.put _ (some 7) _ = _
                    simp only [Act.put, List.setIfInBounds_toArray, List.set_cons_zero, List.set_cons_succ, i64_w, i32_w]
                    rfl
                  refine one_ (i := 14) (N := some 39) #[true, true, true, true, true, true, true, true, true, true, true, true, true, true, true, false, true, false] rfl rfl (by kernel_rfl) (by decide) (fun K hK => ?_)
                  refine goes_ Try.func46 (by kernel_rfl) rfl #[.pointer (some ⟨g, 0, none⟩), .int .u32 256, .func (.func 41) #[] #[.pointer (some ⟨g4, 0, none⟩)]] (by rfl) rfl rfl (by simp only [List.map_toArray, List.map_cons, List.map_nil]; rfl) ?_
                  with_reducible refine (list46_rx S7 hB (by repeat (first | exact Spot.here _ _ | apply Spot.there)) (by repeat (first | exact Spot.here _ _ | apply Spot.there)) HP.out hne 256 HD.out.h5 HD.out.l5).mono ?_
                  rintro z9 w39 ⟨A39, c39, rfl, S39⟩
                  (try dsimp only at S39)
                  refine ⟨_, rfl, ?_⟩
                  refine hK.out _ _ ((old0_ S39 HP.out (by repeat (first | exact Spot.here _ _ | apply Spot.there)) hne)) (fun hHeld => ?_)
                  clear hK K
                  refine norm_ (a' := ?_) ?_ ?_
                  rotate_left
                  · show Act.put _ (some 39) _ = _
                    simp only [Act.put, List.setIfInBounds_toArray, List.set_cons_zero, List.set_cons_succ, i64_w, i32_w]
                    rfl
                  refine pure_ (i := 15) (N := some 40) (v := ?_) (a' := ?_) #[true, true, true, true, true, true, true, true, true, true, true, true, true, true, true, true, true, false] rfl rfl (by kernel_rfl) (fun _ _ _ h => h) (Or.inl ⟨by rfl, ?_⟩) ?_ ?_
                  rotate_left
                  · intro w'
                    go_simp
                    with_reducible rfl
                  rotate_left
                  · simp only [Act.put, List.setIfInBounds_toArray, List.set_cons_zero, List.set_cons_succ, i64_w, i32_w]
                    rfl
                  exact norm_ (by simp only [putAll, Act.put, List.setIfInBounds_toArray, List.set_cons_zero, List.set_cons_succ]) (hCont (g7, (A29, c29), (A32, c32), (A34, c34), (A36, c36), (A39, c39)) _ ⟨S39.out.swap (List.perm_middle (l₁ := [_]))⟩)
              · skip
                refine st_alloc #[.string ⟨#[]⟩, .slice none 0 0, .slice none 0 0, .slice none 0 0, .slice none 0 0, .slice none 0 0] rfl S34 (by rfl) 7 rfl rfl z26 ?_
                intro g7 w7 S7
                refine hK.out _ _ ((old0_ S7 HP.out (by repeat (first | exact Spot.here _ _ | apply Spot.there)) hne)) (fun hHeld => ?_)
                clear hK K
                refine norm_ (a' := ?_) ?_ ?_
                rotate_left
                · show Act.put _ (some 7) _ = _
                  simp only [Act.put, List.setIfInBounds_toArray, List.set_cons_zero, List.set_cons_succ, i64_w, i32_w]
                  rfl
                refine one_ (i := 11) (N := some 36) #[true, true, true, true, true, true, true, true, true, true, true, true, true, true, false, false, true, false] rfl rfl (by kernel_rfl) (by decide) (fun K hK => ?_)
                refine goes_ Try.func45 (by kernel_rfl) rfl #[.pointer (some ⟨g, 0, none⟩), .int .i64 128] (by rfl) rfl rfl (by simp only [List.map_toArray, List.map_cons, List.map_nil]; rfl) ?_
                with_reducible refine (words_rx S7 hB (by repeat (first | exact Spot.here _ _ | apply Spot.there)) (by repeat (first | exact Spot.here _ _ | apply Spot.there)) 128 HD.out.k3 HD.out.h4).mono ?_
                rintro z9 w36 ⟨A36, c36, rfl, S36⟩
                (try dsimp only at S36)
                refine ⟨_, rfl, ?_⟩
                refine hK.out _ _ ((old0_ S36 HP.out (by repeat (first | exact Spot.here _ _ | apply Spot.there)) hne)) (fun hHeld => ?_)
                clear hK K
                refine norm_ (a' := ?_) ?_ ?_
                rotate_left
                · show Act.put _ (some 36) _ = _
                  simp only [Act.put, List.setIfInBounds_toArray, List.set_cons_zero, List.set_cons_succ, i64_w, i32_w]
                  rfl
                refine one_ (i := 14) (N := some 39) #[true, true, true, true, true, true, true, true, true, true, true, true, true, true, true, false, true, false] rfl rfl (by kernel_rfl) (by decide) (fun K hK => ?_)
                refine goes_ Try.func46 (by kernel_rfl) rfl #[.pointer (some ⟨g, 0, none⟩), .int .u32 256, .func (.func 41) #[] #[.pointer (some ⟨g4, 0, none⟩)]] (by rfl) rfl rfl (by simp only [List.map_toArray, List.map_cons, List.map_nil]; rfl) ?_
                with_reducible refine (list46_rx S36 hB (by repeat (first | exact Spot.here _ _ | apply Spot.there)) (by repeat (first | exact Spot.here _ _ | apply Spot.there)) HP.out hne 256 HD.out.h5 HD.out.l5).mono ?_
                rintro z9 w39 ⟨A39, c39, rfl, S39⟩
                (try dsimp only at S39)
                refine ⟨_, rfl, ?_⟩
                refine hK.out _ _ ((old0_ S39 HP.out (by repeat (first | exact Spot.here _ _ | apply Spot.there)) hne)) (fun hHeld => ?_)
                clear hK K
                refine norm_ (a' := ?_) ?_ ?_
                rotate_left
                · show Act.put _ (some 39) _ = _
                  simp only [Act.put, List.setIfInBounds_toArray, List.set_cons_zero, List.set_cons_succ, i64_w, i32_w]
                  rfl
                refine pure_ (i := 15) (N := some 40) (v := ?_) (a' := ?_) #[true, true, true, true, true, true, true, true, true, true, true, true, true, true, true, true, true, false] rfl rfl (by kernel_rfl) (fun _ _ _ h => h) (Or.inl ⟨by rfl, ?_⟩) ?_ ?_
                rotate_left
                · intro w'
                  go_simp
                  with_reducible rfl
                rotate_left
                · simp only [Act.put, List.setIfInBounds_toArray, List.set_cons_zero, List.set_cons_succ, i64_w, i32_w]
                  rfl
                exact norm_ (by simp only [putAll, Act.put, List.setIfInBounds_toArray, List.set_cons_zero, List.set_cons_succ]) (hCont (g7, (A29, c29), (A32, c32), (A34, c34), (A36, c36), (A39, c39)) _ ⟨S39.out.swap (List.perm_middle (l₁ := [_, _]))⟩)
            · skip
              refine st_alloc #[.string ⟨#[]⟩, .slice none 0 0, .slice none 0 0, .slice none 0 0, .slice none 0 0, .slice none 0 0] rfl S32 (by rfl) 7 rfl rfl z26 ?_
              intro g7 w7 S7
              refine hK.out _ _ ((old0_ S7 HP.out (by repeat (first | exact Spot.here _ _ | apply Spot.there)) hne)) (fun hHeld => ?_)
              clear hK K
              refine norm_ (a' := ?_) ?_ ?_
              rotate_left
              · show Act.put _ (some 7) _ = _
                simp only [Act.put, List.setIfInBounds_toArray, List.set_cons_zero, List.set_cons_succ, i64_w, i32_w]
                rfl
              refine one_ (i := 9) (N := some 34) #[true, true, true, true, true, true, true, true, true, true, true, false, true, true, false, false, true, false] rfl rfl (by kernel_rfl) (by decide) (fun K hK => ?_)
              refine goes_ Try.func45 (by kernel_rfl) rfl #[.pointer (some ⟨g, 0, none⟩), .int .i64 512] (by rfl) rfl rfl (by simp only [List.map_toArray, List.map_cons, List.map_nil]; rfl) ?_
              with_reducible refine (words_rx S7 hB (by repeat (first | exact Spot.here _ _ | apply Spot.there)) (by repeat (first | exact Spot.here _ _ | apply Spot.there)) 512 HD.out.k2 HD.out.h3).mono ?_
              rintro z9 w34 ⟨A34, c34, rfl, S34⟩
              (try dsimp only at S34)
              refine ⟨_, rfl, ?_⟩
              refine hK.out _ _ ((old0_ S34 HP.out (by repeat (first | exact Spot.here _ _ | apply Spot.there)) hne)) (fun hHeld => ?_)
              clear hK K
              refine norm_ (a' := ?_) ?_ ?_
              rotate_left
              · show Act.put _ (some 34) _ = _
                simp only [Act.put, List.setIfInBounds_toArray, List.set_cons_zero, List.set_cons_succ, i64_w, i32_w]
                rfl
              refine one_ (i := 11) (N := some 36) #[true, true, true, true, true, true, true, true, true, true, true, true, true, true, false, false, true, false] rfl rfl (by kernel_rfl) (by decide) (fun K hK => ?_)
              refine goes_ Try.func45 (by kernel_rfl) rfl #[.pointer (some ⟨g, 0, none⟩), .int .i64 128] (by rfl) rfl rfl (by simp only [List.map_toArray, List.map_cons, List.map_nil]; rfl) ?_
              with_reducible refine (words_rx S34 hB (by repeat (first | exact Spot.here _ _ | apply Spot.there)) (by repeat (first | exact Spot.here _ _ | apply Spot.there)) 128 HD.out.k3 HD.out.h4).mono ?_
              rintro z9 w36 ⟨A36, c36, rfl, S36⟩
              (try dsimp only at S36)
              refine ⟨_, rfl, ?_⟩
              refine hK.out _ _ ((old0_ S36 HP.out (by repeat (first | exact Spot.here _ _ | apply Spot.there)) hne)) (fun hHeld => ?_)
              clear hK K
              refine norm_ (a' := ?_) ?_ ?_
              rotate_left
              · show Act.put _ (some 36) _ = _
                simp only [Act.put, List.setIfInBounds_toArray, List.set_cons_zero, List.set_cons_succ, i64_w, i32_w]
                rfl
              refine one_ (i := 14) (N := some 39) #[true, true, true, true, true, true, true, true, true, true, true, true, true, true, true, false, true, false] rfl rfl (by kernel_rfl) (by decide) (fun K hK => ?_)
              refine goes_ Try.func46 (by kernel_rfl) rfl #[.pointer (some ⟨g, 0, none⟩), .int .u32 256, .func (.func 41) #[] #[.pointer (some ⟨g4, 0, none⟩)]] (by rfl) rfl rfl (by simp only [List.map_toArray, List.map_cons, List.map_nil]; rfl) ?_
              with_reducible refine (list46_rx S36 hB (by repeat (first | exact Spot.here _ _ | apply Spot.there)) (by repeat (first | exact Spot.here _ _ | apply Spot.there)) HP.out hne 256 HD.out.h5 HD.out.l5).mono ?_
              rintro z9 w39 ⟨A39, c39, rfl, S39⟩
              (try dsimp only at S39)
              refine ⟨_, rfl, ?_⟩
              refine hK.out _ _ ((old0_ S39 HP.out (by repeat (first | exact Spot.here _ _ | apply Spot.there)) hne)) (fun hHeld => ?_)
              clear hK K
              refine norm_ (a' := ?_) ?_ ?_
              rotate_left
              · show Act.put _ (some 39) _ = _
                simp only [Act.put, List.setIfInBounds_toArray, List.set_cons_zero, List.set_cons_succ, i64_w, i32_w]
                rfl
              refine pure_ (i := 15) (N := some 40) (v := ?_) (a' := ?_) #[true, true, true, true, true, true, true, true, true, true, true, true, true, true, true, true, true, false] rfl rfl (by kernel_rfl) (fun _ _ _ h => h) (Or.inl ⟨by rfl, ?_⟩) ?_ ?_
              rotate_left
              · intro w'
                go_simp
                with_reducible rfl
              rotate_left
              · simp only [Act.put, List.setIfInBounds_toArray, List.set_cons_zero, List.set_cons_succ, i64_w, i32_w]
                rfl
              exact norm_ (by simp only [putAll, Act.put, List.setIfInBounds_toArray, List.set_cons_zero, List.set_cons_succ]) (hCont (g7, (A29, c29), (A32, c32), (A34, c34), (A36, c36), (A39, c39)) _ ⟨S39.out.swap (List.perm_middle (l₁ := [_, _, _]))⟩)
          · skip
            refine st_alloc #[.string ⟨#[]⟩, .slice none 0 0, .slice none 0 0, .slice none 0 0, .slice none 0 0, .slice none 0 0] rfl S29 (by rfl) 7 rfl rfl z26 ?_
            intro g7 w7 S7
            refine hK.out _ _ ((old0_ S7 HP.out (by repeat (first | exact Spot.here _ _ | apply Spot.there)) hne)) (fun hHeld => ?_)
            clear hK K
            refine norm_ (a' := ?_) ?_ ?_
            rotate_left
            · show Act.put _ (some 7) _ = _
              simp only [Act.put, List.setIfInBounds_toArray, List.set_cons_zero, List.set_cons_succ, i64_w, i32_w]
              rfl
            refine one_ (i := 7) (N := some 32) #[true, true, true, true, true, true, true, true, true, false, true, false, true, true, false, false, true, false] rfl rfl (by kernel_rfl) (by decide) (fun K hK => ?_)
            refine goes_ Try.func44 (by kernel_rfl) rfl #[.pointer (some ⟨g, 0, none⟩), .int .u32 16, .func (.func 39) #[] #[.pointer (some ⟨g4, 0, none⟩)]] (by rfl) rfl rfl (by simp only [List.map_toArray, List.map_cons, List.map_nil]; rfl) ?_
            with_reducible refine (list44_rx S7 hB (by repeat (first | exact Spot.here _ _ | apply Spot.there)) (by repeat (first | exact Spot.here _ _ | apply Spot.there)) HP.out hne 16 HD.out.h2 HD.out.l2).mono ?_
            rintro z9 w32 ⟨A32, c32, rfl, S32⟩
            (try dsimp only at S32)
            refine ⟨_, rfl, ?_⟩
            refine hK.out _ _ ((old0_ S32 HP.out (by repeat (first | exact Spot.here _ _ | apply Spot.there)) hne)) (fun hHeld => ?_)
            clear hK K
            refine norm_ (a' := ?_) ?_ ?_
            rotate_left
            · show Act.put _ (some 32) _ = _
              simp only [Act.put, List.setIfInBounds_toArray, List.set_cons_zero, List.set_cons_succ, i64_w, i32_w]
              rfl
            refine one_ (i := 9) (N := some 34) #[true, true, true, true, true, true, true, true, true, true, true, false, true, true, false, false, true, false] rfl rfl (by kernel_rfl) (by decide) (fun K hK => ?_)
            refine goes_ Try.func45 (by kernel_rfl) rfl #[.pointer (some ⟨g, 0, none⟩), .int .i64 512] (by rfl) rfl rfl (by simp only [List.map_toArray, List.map_cons, List.map_nil]; rfl) ?_
            with_reducible refine (words_rx S32 hB (by repeat (first | exact Spot.here _ _ | apply Spot.there)) (by repeat (first | exact Spot.here _ _ | apply Spot.there)) 512 HD.out.k2 HD.out.h3).mono ?_
            rintro z9 w34 ⟨A34, c34, rfl, S34⟩
            (try dsimp only at S34)
            refine ⟨_, rfl, ?_⟩
            refine hK.out _ _ ((old0_ S34 HP.out (by repeat (first | exact Spot.here _ _ | apply Spot.there)) hne)) (fun hHeld => ?_)
            clear hK K
            refine norm_ (a' := ?_) ?_ ?_
            rotate_left
            · show Act.put _ (some 34) _ = _
              simp only [Act.put, List.setIfInBounds_toArray, List.set_cons_zero, List.set_cons_succ, i64_w, i32_w]
              rfl
            refine one_ (i := 11) (N := some 36) #[true, true, true, true, true, true, true, true, true, true, true, true, true, true, false, false, true, false] rfl rfl (by kernel_rfl) (by decide) (fun K hK => ?_)
            refine goes_ Try.func45 (by kernel_rfl) rfl #[.pointer (some ⟨g, 0, none⟩), .int .i64 128] (by rfl) rfl rfl (by simp only [List.map_toArray, List.map_cons, List.map_nil]; rfl) ?_
            with_reducible refine (words_rx S34 hB (by repeat (first | exact Spot.here _ _ | apply Spot.there)) (by repeat (first | exact Spot.here _ _ | apply Spot.there)) 128 HD.out.k3 HD.out.h4).mono ?_
            rintro z9 w36 ⟨A36, c36, rfl, S36⟩
            (try dsimp only at S36)
            refine ⟨_, rfl, ?_⟩
            refine hK.out _ _ ((old0_ S36 HP.out (by repeat (first | exact Spot.here _ _ | apply Spot.there)) hne)) (fun hHeld => ?_)
            clear hK K
            refine norm_ (a' := ?_) ?_ ?_
            rotate_left
            · show Act.put _ (some 36) _ = _
              simp only [Act.put, List.setIfInBounds_toArray, List.set_cons_zero, List.set_cons_succ, i64_w, i32_w]
              rfl
            refine one_ (i := 14) (N := some 39) #[true, true, true, true, true, true, true, true, true, true, true, true, true, true, true, false, true, false] rfl rfl (by kernel_rfl) (by decide) (fun K hK => ?_)
            refine goes_ Try.func46 (by kernel_rfl) rfl #[.pointer (some ⟨g, 0, none⟩), .int .u32 256, .func (.func 41) #[] #[.pointer (some ⟨g4, 0, none⟩)]] (by rfl) rfl rfl (by simp only [List.map_toArray, List.map_cons, List.map_nil]; rfl) ?_
            with_reducible refine (list46_rx S36 hB (by repeat (first | exact Spot.here _ _ | apply Spot.there)) (by repeat (first | exact Spot.here _ _ | apply Spot.there)) HP.out hne 256 HD.out.h5 HD.out.l5).mono ?_
            rintro z9 w39 ⟨A39, c39, rfl, S39⟩
            (try dsimp only at S39)
            refine ⟨_, rfl, ?_⟩
            refine hK.out _ _ ((old0_ S39 HP.out (by repeat (first | exact Spot.here _ _ | apply Spot.there)) hne)) (fun hHeld => ?_)
            clear hK K
            refine norm_ (a' := ?_) ?_ ?_
            rotate_left
            · show Act.put _ (some 39) _ = _
              simp only [Act.put, List.setIfInBounds_toArray, List.set_cons_zero, List.set_cons_succ, i64_w, i32_w]
              rfl
            refine pure_ (i := 15) (N := some 40) (v := ?_) (a' := ?_) #[true, true, true, true, true, true, true, true, true, true, true, true, true, true, true, true, true, false] rfl rfl (by kernel_rfl) (fun _ _ _ h => h) (Or.inl ⟨by rfl, ?_⟩) ?_ ?_
            rotate_left
            · intro w'
              go_simp
              with_reducible rfl
            rotate_left
            · simp only [Act.put, List.setIfInBounds_toArray, List.set_cons_zero, List.set_cons_succ, i64_w, i32_w]
              rfl
            exact norm_ (by simp only [putAll, Act.put, List.setIfInBounds_toArray, List.set_cons_zero, List.set_cons_succ]) (hCont (g7, (A29, c29), (A32, c32), (A34, c34), (A36, c36), (A39, c39)) _ ⟨S39.out.swap (List.perm_middle (l₁ := [_, _, _, _]))⟩)
        · skip
          refine st_alloc #[.string ⟨#[]⟩, .slice none 0 0, .slice none 0 0, .slice none 0 0, .slice none 0 0, .slice none 0 0] rfl S26 (by rfl) 7 rfl rfl z26 ?_
          intro g7 w7 S7
          refine hK.out _ _ ((old0_ S7 HP.out (by repeat (first | exact Spot.here _ _ | apply Spot.there)) hne)) (fun hHeld => ?_)
          clear hK K
          refine norm_ (a' := ?_) ?_ ?_
          rotate_left
          · show Act.put _ (some 7) _ = _
            simp only [Act.put, List.setIfInBounds_toArray, List.set_cons_zero, List.set_cons_succ, i64_w, i32_w]
            rfl
          refine one_ (i := 4) (N := some 29) #[true, true, true, true, true, true, true, false, true, false, true, false, true, true, false, false, true, false] rfl rfl (by kernel_rfl) (by decide) (fun K hK => ?_)
          refine goes_ Try.func44 (by kernel_rfl) rfl #[.pointer (some ⟨g, 0, none⟩), .int .u32 8, .func (.func 39) #[] #[.pointer (some ⟨g4, 0, none⟩)]] (by rfl) rfl rfl (by simp only [List.map_toArray, List.map_cons, List.map_nil]; rfl) ?_
          with_reducible refine (list44_rx S7 hB (by repeat (first | exact Spot.here _ _ | apply Spot.there)) (by repeat (first | exact Spot.here _ _ | apply Spot.there)) HP.out hne 8 HD.out.h1 HD.out.l1).mono ?_
          rintro z9 w29 ⟨A29, c29, rfl, S29⟩
          (try dsimp only at S29)
          refine ⟨_, rfl, ?_⟩
          refine hK.out _ _ ((old0_ S29 HP.out (by repeat (first | exact Spot.here _ _ | apply Spot.there)) hne)) (fun hHeld => ?_)
          clear hK K
          refine norm_ (a' := ?_) ?_ ?_
          rotate_left
          · show Act.put _ (some 29) _ = _
            simp only [Act.put, List.setIfInBounds_toArray, List.set_cons_zero, List.set_cons_succ, i64_w, i32_w]
            rfl
          refine one_ (i := 7) (N := some 32) #[true, true, true, true, true, true, true, true, true, false, true, false, true, true, false, false, true, false] rfl rfl (by kernel_rfl) (by decide) (fun K hK => ?_)
          refine goes_ Try.func44 (by kernel_rfl) rfl #[.pointer (some ⟨g, 0, none⟩), .int .u32 16, .func (.func 39) #[] #[.pointer (some ⟨g4, 0, none⟩)]] (by rfl) rfl rfl (by simp only [List.map_toArray, List.map_cons, List.map_nil]; rfl) ?_
          with_reducible refine (list44_rx S29 hB (by repeat (first | exact Spot.here _ _ | apply Spot.there)) (by repeat (first | exact Spot.here _ _ | apply Spot.there)) HP.out hne 16 HD.out.h2 HD.out.l2).mono ?_
          rintro z9 w32 ⟨A32, c32, rfl, S32⟩
          (try dsimp only at S32)
          refine ⟨_, rfl, ?_⟩
          refine hK.out _ _ ((old0_ S32 HP.out (by repeat (first | exact Spot.here _ _ | apply Spot.there)) hne)) (fun hHeld => ?_)
          clear hK K
          refine norm_ (a' := ?_) ?_ ?_
          rotate_left
          · show Act.put _ (some 32) _ = _
            simp only [Act.put, List.setIfInBounds_toArray, List.set_cons_zero, List.set_cons_succ, i64_w, i32_w]
            rfl
          refine one_ (i := 9) (N := some 34) #[true, true, true, true, true, true, true, true, true, true, true, false, true, true, false, false, true, false] rfl rfl (by kernel_rfl) (by decide) (fun K hK => ?_)
          refine goes_ Try.func45 (by kernel_rfl) rfl #[.pointer (some ⟨g, 0, none⟩), .int .i64 512] (by rfl) rfl rfl (by simp only [List.map_toArray, List.map_cons, List.map_nil]; rfl) ?_
          with_reducible refine (words_rx S32 hB (by repeat (first | exact Spot.here _ _ | apply Spot.there)) (by repeat (first | exact Spot.here _ _ | apply Spot.there)) 512 HD.out.k2 HD.out.h3).mono ?_
          rintro z9 w34 ⟨A34, c34, rfl, S34⟩
          (try dsimp only at S34)
          refine ⟨_, rfl, ?_⟩
          refine hK.out _ _ ((old0_ S34 HP.out (by repeat (first | exact Spot.here _ _ | apply Spot.there)) hne)) (fun hHeld => ?_)
          clear hK K
          refine norm_ (a' := ?_) ?_ ?_
          rotate_left
          · show Act.put _ (some 34) _ = _
            simp only [Act.put, List.setIfInBounds_toArray, List.set_cons_zero, List.set_cons_succ, i64_w, i32_w]
            rfl
          refine one_ (i := 11) (N := some 36) #[true, true, true, true, true, true, true, true, true, true, true, true, true, true, false, false, true, false] rfl rfl (by kernel_rfl) (by decide) (fun K hK => ?_)
          refine goes_ Try.func45 (by kernel_rfl) rfl #[.pointer (some ⟨g, 0, none⟩), .int .i64 128] (by rfl) rfl rfl (by simp only [List.map_toArray, List.map_cons, List.map_nil]; rfl) ?_
          with_reducible refine (words_rx S34 hB (by repeat (first | exact Spot.here _ _ | apply Spot.there)) (by repeat (first | exact Spot.here _ _ | apply Spot.there)) 128 HD.out.k3 HD.out.h4).mono ?_
          rintro z9 w36 ⟨A36, c36, rfl, S36⟩
          (try dsimp only at S36)
          refine ⟨_, rfl, ?_⟩
          refine hK.out _ _ ((old0_ S36 HP.out (by repeat (first | exact Spot.here _ _ | apply Spot.there)) hne)) (fun hHeld => ?_)
          clear hK K
          refine norm_ (a' := ?_) ?_ ?_
          rotate_left
          · show Act.put _ (some 36) _ = _
            simp only [Act.put, List.setIfInBounds_toArray, List.set_cons_zero, List.set_cons_succ, i64_w, i32_w]
            rfl
          refine one_ (i := 14) (N := some 39) #[true, true, true, true, true, true, true, true, true, true, true, true, true, true, true, false, true, false] rfl rfl (by kernel_rfl) (by decide) (fun K hK => ?_)
          refine goes_ Try.func46 (by kernel_rfl) rfl #[.pointer (some ⟨g, 0, none⟩), .int .u32 256, .func (.func 41) #[] #[.pointer (some ⟨g4, 0, none⟩)]] (by rfl) rfl rfl (by simp only [List.map_toArray, List.map_cons, List.map_nil]; rfl) ?_
          with_reducible refine (list46_rx S36 hB (by repeat (first | exact Spot.here _ _ | apply Spot.there)) (by repeat (first | exact Spot.here _ _ | apply Spot.there)) HP.out hne 256 HD.out.h5 HD.out.l5).mono ?_
          rintro z9 w39 ⟨A39, c39, rfl, S39⟩
          (try dsimp only at S39)
          refine ⟨_, rfl, ?_⟩
          refine hK.out _ _ ((old0_ S39 HP.out (by repeat (first | exact Spot.here _ _ | apply Spot.there)) hne)) (fun hHeld => ?_)
          clear hK K
          refine norm_ (a' := ?_) ?_ ?_
          rotate_left
          · show Act.put _ (some 39) _ = _
            simp only [Act.put, List.setIfInBounds_toArray, List.set_cons_zero, List.set_cons_succ, i64_w, i32_w]
            rfl
          refine pure_ (i := 15) (N := some 40) (v := ?_) (a' := ?_) #[true, true, true, true, true, true, true, true, true, true, true, true, true, true, true, true, true, false] rfl rfl (by kernel_rfl) (fun _ _ _ h => h) (Or.inl ⟨by rfl, ?_⟩) ?_ ?_
          rotate_left
          · intro w'
            go_simp
            with_reducible rfl
          rotate_left
          · simp only [Act.put, List.setIfInBounds_toArray, List.set_cons_zero, List.set_cons_succ, i64_w, i32_w]
            rfl
          exact norm_ (by simp only [putAll, Act.put, List.setIfInBounds_toArray, List.set_cons_zero, List.set_cons_succ]) (hCont (g7, (A29, c29), (A32, c32), (A34, c34), (A36, c36), (A39, c39)) _ ⟨S39.out.swap (List.perm_middle (l₁ := [_, _, _, _, _]))⟩)
      · skip
        refine st_alloc #[.string ⟨#[]⟩, .slice none 0 0, .slice none 0 0, .slice none 0 0, .slice none 0 0, .slice none 0 0] rfl S2 (by rfl) 7 rfl rfl z26 ?_
        intro g7 w7 S7
        refine hK.out _ _ ((old0_ S7 HP.out (by repeat (first | exact Spot.here _ _ | apply Spot.there)) hne)) (fun hHeld => ?_)
        clear hK K
        refine norm_ (a' := ?_) ?_ ?_
        rotate_left
        · show Act.put _ (some 7) _ = _
          simp only [Act.put, List.setIfInBounds_toArray, List.set_cons_zero, List.set_cons_succ, i64_w, i32_w]
          rfl
        refine one_ (i := 1) (N := some 26) #[true, true, true, true, false, true, true, false, true, false, true, false, true, true, false, false, true, false] rfl rfl (by kernel_rfl) (by decide) (fun K hK => ?_)
        refine goesC_ (f := 39) Try.func39 (by kernel_rfl) rfl (by rfl) rfl rfl rfl ?_
        with_reducible refine (text39_rx S7 hB (by repeat (first | exact Spot.here _ _ | apply Spot.there)) (by repeat (first | exact Spot.here _ _ | apply Spot.there)) HP.out hne HD.out.h0).mono ?_
        rintro z9 w26 ⟨rfl, S26⟩
        (try dsimp only at S26)
        refine ⟨_, rfl, ?_⟩
        refine hK.out _ _ ((old0_ S26 HP.out (by repeat (first | exact Spot.here _ _ | apply Spot.there)) hne)) (fun hHeld => ?_)
        clear hK K
        refine norm_ (a' := ?_) ?_ ?_
        rotate_left
        · show Act.put _ (some 26) _ = _
          simp only [Act.put, List.setIfInBounds_toArray, List.set_cons_zero, List.set_cons_succ, i64_w, i32_w]
          rfl
        refine one_ (i := 4) (N := some 29) #[true, true, true, true, true, true, true, false, true, false, true, false, true, true, false, false, true, false] rfl rfl (by kernel_rfl) (by decide) (fun K hK => ?_)
        refine goes_ Try.func44 (by kernel_rfl) rfl #[.pointer (some ⟨g, 0, none⟩), .int .u32 8, .func (.func 39) #[] #[.pointer (some ⟨g4, 0, none⟩)]] (by rfl) rfl rfl (by simp only [List.map_toArray, List.map_cons, List.map_nil]; rfl) ?_
        with_reducible refine (list44_rx S26 hB (by repeat (first | exact Spot.here _ _ | apply Spot.there)) (by repeat (first | exact Spot.here _ _ | apply Spot.there)) HP.out hne 8 HD.out.h1 HD.out.l1).mono ?_
        rintro z9 w29 ⟨A29, c29, rfl, S29⟩
        (try dsimp only at S29)
        refine ⟨_, rfl, ?_⟩
        refine hK.out _ _ ((old0_ S29 HP.out (by repeat (first | exact Spot.here _ _ | apply Spot.there)) hne)) (fun hHeld => ?_)
        clear hK K
        refine norm_ (a' := ?_) ?_ ?_
        rotate_left
        · show Act.put _ (some 29) _ = _
          simp only [Act.put, List.setIfInBounds_toArray, List.set_cons_zero, List.set_cons_succ, i64_w, i32_w]
          rfl
        refine one_ (i := 7) (N := some 32) #[true, true, true, true, true, true, true, true, true, false, true, false, true, true, false, false, true, false] rfl rfl (by kernel_rfl) (by decide) (fun K hK => ?_)
        refine goes_ Try.func44 (by kernel_rfl) rfl #[.pointer (some ⟨g, 0, none⟩), .int .u32 16, .func (.func 39) #[] #[.pointer (some ⟨g4, 0, none⟩)]] (by rfl) rfl rfl (by simp only [List.map_toArray, List.map_cons, List.map_nil]; rfl) ?_
        with_reducible refine (list44_rx S29 hB (by repeat (first | exact Spot.here _ _ | apply Spot.there)) (by repeat (first | exact Spot.here _ _ | apply Spot.there)) HP.out hne 16 HD.out.h2 HD.out.l2).mono ?_
        rintro z9 w32 ⟨A32, c32, rfl, S32⟩
        (try dsimp only at S32)
        refine ⟨_, rfl, ?_⟩
        refine hK.out _ _ ((old0_ S32 HP.out (by repeat (first | exact Spot.here _ _ | apply Spot.there)) hne)) (fun hHeld => ?_)
        clear hK K
        refine norm_ (a' := ?_) ?_ ?_
        rotate_left
        · show Act.put _ (some 32) _ = _
          simp only [Act.put, List.setIfInBounds_toArray, List.set_cons_zero, List.set_cons_succ, i64_w, i32_w]
          rfl
        refine one_ (i := 9) (N := some 34) #[true, true, true, true, true, true, true, true, true, true, true, false, true, true, false, false, true, false] rfl rfl (by kernel_rfl) (by decide) (fun K hK => ?_)
        refine goes_ Try.func45 (by kernel_rfl) rfl #[.pointer (some ⟨g, 0, none⟩), .int .i64 512] (by rfl) rfl rfl (by simp only [List.map_toArray, List.map_cons, List.map_nil]; rfl) ?_
        with_reducible refine (words_rx S32 hB (by repeat (first | exact Spot.here _ _ | apply Spot.there)) (by repeat (first | exact Spot.here _ _ | apply Spot.there)) 512 HD.out.k2 HD.out.h3).mono ?_
        rintro z9 w34 ⟨A34, c34, rfl, S34⟩
        (try dsimp only at S34)
        refine ⟨_, rfl, ?_⟩
        refine hK.out _ _ ((old0_ S34 HP.out (by repeat (first | exact Spot.here _ _ | apply Spot.there)) hne)) (fun hHeld => ?_)
        clear hK K
        refine norm_ (a' := ?_) ?_ ?_
        rotate_left
        · show Act.put _ (some 34) _ = _
          simp only [Act.put, List.setIfInBounds_toArray, List.set_cons_zero, List.set_cons_succ, i64_w, i32_w]
          rfl
        refine one_ (i := 11) (N := some 36) #[true, true, true, true, true, true, true, true, true, true, true, true, true, true, false, false, true, false] rfl rfl (by kernel_rfl) (by decide) (fun K hK => ?_)
        refine goes_ Try.func45 (by kernel_rfl) rfl #[.pointer (some ⟨g, 0, none⟩), .int .i64 128] (by rfl) rfl rfl (by simp only [List.map_toArray, List.map_cons, List.map_nil]; rfl) ?_
        with_reducible refine (words_rx S34 hB (by repeat (first | exact Spot.here _ _ | apply Spot.there)) (by repeat (first | exact Spot.here _ _ | apply Spot.there)) 128 HD.out.k3 HD.out.h4).mono ?_
        rintro z9 w36 ⟨A36, c36, rfl, S36⟩
        (try dsimp only at S36)
        refine ⟨_, rfl, ?_⟩
        refine hK.out _ _ ((old0_ S36 HP.out (by repeat (first | exact Spot.here _ _ | apply Spot.there)) hne)) (fun hHeld => ?_)
        clear hK K
        refine norm_ (a' := ?_) ?_ ?_
        rotate_left
        · show Act.put _ (some 36) _ = _
          simp only [Act.put, List.setIfInBounds_toArray, List.set_cons_zero, List.set_cons_succ, i64_w, i32_w]
          rfl
        refine one_ (i := 14) (N := some 39) #[true, true, true, true, true, true, true, true, true, true, true, true, true, true, true, false, true, false] rfl rfl (by kernel_rfl) (by decide) (fun K hK => ?_)
        refine goes_ Try.func46 (by kernel_rfl) rfl #[.pointer (some ⟨g, 0, none⟩), .int .u32 256, .func (.func 41) #[] #[.pointer (some ⟨g4, 0, none⟩)]] (by rfl) rfl rfl (by simp only [List.map_toArray, List.map_cons, List.map_nil]; rfl) ?_
        with_reducible refine (list46_rx S36 hB (by repeat (first | exact Spot.here _ _ | apply Spot.there)) (by repeat (first | exact Spot.here _ _ | apply Spot.there)) HP.out hne 256 HD.out.h5 HD.out.l5).mono ?_
        rintro z9 w39 ⟨A39, c39, rfl, S39⟩
        (try dsimp only at S39)
        refine ⟨_, rfl, ?_⟩
        refine hK.out _ _ ((old0_ S39 HP.out (by repeat (first | exact Spot.here _ _ | apply Spot.there)) hne)) (fun hHeld => ?_)
        clear hK K
        refine norm_ (a' := ?_) ?_ ?_
        rotate_left
        · show Act.put _ (some 39) _ = _
          simp only [Act.put, List.setIfInBounds_toArray, List.set_cons_zero, List.set_cons_succ, i64_w, i32_w]
          rfl
        refine pure_ (i := 15) (N := some 40) (v := ?_) (a' := ?_) #[true, true, true, true, true, true, true, true, true, true, true, true, true, true, true, true, true, false] rfl rfl (by kernel_rfl) (fun _ _ _ h => h) (Or.inl ⟨by rfl, ?_⟩) ?_ ?_
        rotate_left
        · intro w'
          go_simp
          with_reducible rfl
        rotate_left
        · simp only [Act.put, List.setIfInBounds_toArray, List.set_cons_zero, List.set_cons_succ, i64_w, i32_w]
          rfl
        exact norm_ (by simp only [putAll, Act.put, List.setIfInBounds_toArray, List.set_cons_zero, List.set_cons_succ]) (hCont (g7, (A29, c29), (A32, c32), (A34, c34), (A36, c36), (A39, c39)) _ ⟨S39.out.swap (List.perm_middle (l₁ := [_, _, _, _, _]))⟩)
    rintro ⟨g7, ⟨A29, c29⟩, ⟨A32, c32⟩, ⟨A34, c34⟩, ⟨A36, c36⟩, ⟨A39, c39⟩⟩ w8 S8
    simp only at S8
    have hHeld : w8.cell? ⟨g4, 0, none⟩ = some (.pointer (some ⟨g, 0, none⟩)) := (old0_ S8 HP.out (by repeat (first | exact Spot.here _ _ | apply Spot.there)) hne)
    refine norm_ (a' := ?_) ?_ ?_
    rotate_left
    · simp only [putAll, Act.put, List.setIfInBounds_toArray, List.set_cons_zero, List.set_cons_succ]
      rfl
    refine one_ (i := 17) (N := none) #[true, true, true, true, true, true, true, true, true, true, true, true, true, true, true, true, true, true] rfl rfl (by kernel_rfl) (by decide) (fun K hK => ?_)
    refine st_puts (g := g7) S8 (by rfl) rfl rfl s26 rfl rfl (by repeat (first | exact Spot.here _ _ | apply Spot.there)) rfl (by rfl) (by rfl) ?_
    intro w9 S9
    simp only [putAt, List.set_cons_zero, List.set_cons_succ] at S9
    refine hK.out _ _ ((old0_ S9 HP.out (by repeat (first | exact Spot.here _ _ | apply Spot.there)) hne)) (fun hHeld => ?_)
    clear hK K
    refine done_ (by kernel_rfl) ?_

    clear S2 S8
    have S := S9
    clear S9
    have HN29 := Aside0.mk (rx_new (a := Ow Kd.string 9 A29 c29 ex) S (by repeat (first | exact Two.first (by repeat (first | exact Spot.here _ _ | apply Spot.there)) | apply Two.there)) (by repeat (first | exact Two.first (by repeat (first | exact Spot.here _ _ | apply Spot.there)) | apply Two.there)))
    have HN32 := Aside0.mk (rx_new (a := Ow Kd.string 9 A32 c32 im) S (by repeat (first | exact Two.first (by repeat (first | exact Spot.here _ _ | apply Spot.there)) | apply Two.there)) (by repeat (first | exact Two.first (by repeat (first | exact Spot.here _ _ | apply Spot.there)) | apply Two.there)))
    have HN34 := Aside0.mk (rx_new (a := Ow (Kd.int .u32) 43 A34 c34 co) S (by repeat (first | exact Two.first (by repeat (first | exact Spot.here _ _ | apply Spot.there)) | apply Two.there)) (by repeat (first | exact Two.first (by repeat (first | exact Spot.here _ _ | apply Spot.there)) | apply Two.there)))
    have HN36 := Aside0.mk (rx_new (a := Ow (Kd.int .u32) 43 A36 c36 da) S (by repeat (first | exact Two.first (by repeat (first | exact Spot.here _ _ | apply Spot.there)) | apply Two.there)) (by repeat (first | exact Two.first (by repeat (first | exact Spot.here _ _ | apply Spot.there)) | apply Two.there)))
    have HN39 := Aside0.mk (rx_new (a := Ow k50 50 A39 c39 re) S (by repeat (first | exact Two.first (by repeat (first | exact Spot.here _ _ | apply Spot.there)) | apply Two.there)) (by repeat (first | exact Two.first (by repeat (first | exact Spot.here _ _ | apply Spot.there)) | apply Two.there)))
    have S1 := still_split (P' := fun k => ¬ (k = g ∨ k = g2)) S (by repeat (first | exact Spot.here _ _ | apply Spot.there)) (show w_.drew.heap[g2]? = some (.cells #[.string ⟨#[]⟩, .slice none 0 0, .slice none 0 0, .slice none 0 0, .slice none 0 0, .slice none 0 0] 26 (0, 0)) from HG2H.out) hg2 (fun k hk => ⟨fun e => hk (.inl e), fun e => hk (.inr e)⟩)
    clear S
    have S := S1
    clear S1
    cases hne0 : (f != 0) with
    | true =>
      cases hq : (e5 != 0) with
      | true =>
        go_wp2_with (first | (refine ev_load1 ?_ rfl o67 rfl (old_still S (by repeat (first | exact Spot.here _ _ | apply Spot.there)) HP.out (by rintro (h | h); exact hne h; exact hg24 h)) ?_; (first | exact want0 rfl | exact want1 rfl rfl rfl rfl)) | (refine ev_owns (vs := [_, _, _, _, _, _]) S ?_ rfl m26 rfl (by repeat (first | exact Spot.here _ _ | apply Spot.there)) (by exact rfl) ?_; (first | exact want0 rfl | exact want1 rfl rfl rfl rfl)) | ((with_reducible refine gate_dst (N := 2) rfl ?_); refine ev_alloc #[.string ⟨#[]⟩, .slice none 0 0, .slice none 0 0, .slice none 0 0, .slice none 0 0, .slice none 0 0] rfl S ?_ 2 rfl rfl z26 ?_; (first | exact want0 rfl | exact want1 rfl rfl rfl rfl); intro g2 w2 S_; clear S; have S := S_; clear S_) | (refine ev_puts S ?_ rfl rfl s26 rfl rfl (by repeat (first | exact Spot.here _ _ | apply Spot.there)) rfl ?_ ?_ ?_; (first | exact want0 rfl | exact want1 rfl rfl rfl rfl); rfl; rfl; intro w_ S_; simp only [putAt, List.set_cons_zero, List.set_cons_succ] at S_; clear S; have S := S_; clear S_) | ((with_reducible refine gate_dst (N := 4) rfl ?_); refine ev_alloc #[.pointer none] rfl S ?_ 4 rfl rfl z67 ?_; (first | exact want0 rfl | exact want1 rfl rfl rfl rfl); intro g4 w4 S_; clear S; have S := S_; clear S_) | (refine ev_put1 S ?_ rfl rfl s67 rfl rfl (by repeat (first | exact Spot.here _ _ | apply Spot.there)) ?_ ?_ ?_; (first | exact want0 rfl | exact want1 rfl rfl rfl rfl); rfl; rfl; intro w_ S_; simp only [putAt, List.set_cons_zero, List.set_cons_succ] at S_; clear S; have S := S_; clear S_) | (refine ev_own1 S ?_ rfl o67 rfl (by repeat (first | exact Spot.here _ _ | apply Spot.there)) (by exact rfl) ?_; (first | exact want0 rfl | exact want1 rfl rfl rfl rfl)) | ((with_reducible refine gate_dst (N := 7) rfl ?_); refine ev_alloc #[.string ⟨#[]⟩, .slice none 0 0, .slice none 0 0, .slice none 0 0, .slice none 0 0, .slice none 0 0] rfl S ?_ 7 rfl rfl z26 ?_; (first | exact want0 rfl | exact want1 rfl rfl rfl rfl); intro g7 w7 S_; clear S; have S := S_; clear S_) | (refine ev_owns (vs := [_, _, _, _, _, _]) S ?_ rfl m26 rfl (by repeat (first | exact Spot.here _ _ | apply Spot.there)) (by exact rfl) ?_; (first | exact want0 rfl | exact want1 rfl rfl rfl rfl)) | (go_at_call 12; (with_reducible refine (put_no nm A29 c29 ex A32 c32 im A34 c34 co A36 c36 da A39 c39 re _ ⟨Ow.reads (pred_at S.out (a := Ow Kd.string 9 A29 c29 ex) (by repeat (first | exact Spot.here _ _ | apply Spot.there))), Ow.cap (pred_at S.out (a := Ow Kd.string 9 A29 c29 ex) (by repeat (first | exact Spot.here _ _ | apply Spot.there))), Ow.reads (pred_at S.out (a := Ow Kd.string 9 A32 c32 im) (by repeat (first | exact Spot.here _ _ | apply Spot.there))), Ow.cap (pred_at S.out (a := Ow Kd.string 9 A32 c32 im) (by repeat (first | exact Spot.here _ _ | apply Spot.there))), Ow.reads (pred_at S.out (a := Ow (Kd.int .u32) 43 A34 c34 co) (by repeat (first | exact Spot.here _ _ | apply Spot.there))), Ow.cap (pred_at S.out (a := Ow (Kd.int .u32) 43 A34 c34 co) (by repeat (first | exact Spot.here _ _ | apply Spot.there))), Ow.reads (pred_at S.out (a := Ow (Kd.int .u32) 43 A36 c36 da) (by repeat (first | exact Spot.here _ _ | apply Spot.there))), Ow.cap (pred_at S.out (a := Ow (Kd.int .u32) 43 A36 c36 da) (by repeat (first | exact Spot.here _ _ | apply Spot.there))), Ow.reads (pred_at S.out (a := Ow k50 50 A39 c39 re) (by repeat (first | exact Spot.here _ _ | apply Spot.there))), Ow.cap (pred_at S.out (a := Ow k50 50 A39 c39 re) (by repeat (first | exact Spot.here _ _ | apply Spot.there)))⟩ f HF.out hne0).mono ?_); rintro z_ w_ ⟨rfl, hb_⟩; have hb2_ := hb_; have S_ := Aside0.mk (S.out.keep hb2_); clear hb2_ hb_; clear S; have S := S_; clear S_) | (go_at_call 47; (with_reducible refine (err_z S (by repeat (first | exact Spot.here _ _ | apply Spot.there))).mono ?_); rintro z_ w_ ⟨rfl, S_⟩; clear S; have S := S_; clear S_) | (go_at_call 48; (with_reducible refine (PD.slices_Equal_byte_byte.calls (en.length + 1) A44 c44 en A c xs _ _ (Ow.reads (pred_at S.out (a := Ow (Kd.int .u8) 5 A44 c44 en) (by repeat (first | exact Spot.here _ _ | apply Spot.there)))) (Ow.cap (pred_at S.out (a := Ow (Kd.int .u8) 5 A44 c44 en) (by repeat (first | exact Spot.here _ _ | apply Spot.there)))) (Kd.C_below HC.out (below_end S (by repeat (first | exact Spot.here _ _ | apply Spot.there)) HW.out HG0.out HN2.out)) hc HEQ.out).mono ?_); rintro z_ w_ ⟨rfl, ⟨m_, rfl⟩⟩; have S_ := Aside0.mk (S.out.drewN m_); clear S; have S := S_; clear S_) | (go_at_call 48; (with_reducible refine (PD.slices_Equal_byte_byte.calls (en.length + 1) A44 c44 en A _ xs _ _ (Ow.reads (pred_at S.out (a := Ow (Kd.int .u8) 5 A44 c44 en) (by repeat (first | exact Spot.here _ _ | apply Spot.there)))) (Ow.cap (pred_at S.out (a := Ow (Kd.int .u8) 5 A44 c44 en) (by repeat (first | exact Spot.here _ _ | apply Spot.there)))) (Kd.C_below HC.out (below_end S (by repeat (first | exact Spot.here _ _ | apply Spot.there)) HW.out HG0.out HN2.out)) hc HEQ.out).mono ?_); rintro z_ w_ ⟨rfl, ⟨m_, rfl⟩⟩; have S_ := Aside0.mk (S.out.drewN m_); clear S; have S := S_; clear S_))
        refine retN (rs := [.cell 2 26, .tmp 3]) rfl rfl ?_ (Bk.vals S rfl (by repeat (first | exact Spot.here _ _ | apply Spot.there)) m26 (by exact rfl) (.tmp .nil)) ?_
        · simp
        refine ⟨?_, below_end S (by repeat (first | exact Spot.here _ _ | apply Spot.there)) HW.out HG0.out HN2.out⟩
        unfold Got
        rw [if_neg (fun h => by simp [h.1, h.2.1] at hq hne0)]
        rfl
      | false =>
        go_wp2_with (first | (refine ev_load1 ?_ rfl o67 rfl (old_still S (by repeat (first | exact Spot.here _ _ | apply Spot.there)) HP.out (by rintro (h | h); exact hne h; exact hg24 h)) ?_; (first | exact want0 rfl | exact want1 rfl rfl rfl rfl)) | (refine ev_owns (vs := [_, _, _, _, _, _]) S ?_ rfl m26 rfl (by repeat (first | exact Spot.here _ _ | apply Spot.there)) (by exact rfl) ?_; (first | exact want0 rfl | exact want1 rfl rfl rfl rfl)) | ((with_reducible refine gate_dst (N := 2) rfl ?_); refine ev_alloc #[.string ⟨#[]⟩, .slice none 0 0, .slice none 0 0, .slice none 0 0, .slice none 0 0, .slice none 0 0] rfl S ?_ 2 rfl rfl z26 ?_; (first | exact want0 rfl | exact want1 rfl rfl rfl rfl); intro g2 w2 S_; clear S; have S := S_; clear S_) | (refine ev_puts S ?_ rfl rfl s26 rfl rfl (by repeat (first | exact Spot.here _ _ | apply Spot.there)) rfl ?_ ?_ ?_; (first | exact want0 rfl | exact want1 rfl rfl rfl rfl); rfl; rfl; intro w_ S_; simp only [putAt, List.set_cons_zero, List.set_cons_succ] at S_; clear S; have S := S_; clear S_) | ((with_reducible refine gate_dst (N := 4) rfl ?_); refine ev_alloc #[.pointer none] rfl S ?_ 4 rfl rfl z67 ?_; (first | exact want0 rfl | exact want1 rfl rfl rfl rfl); intro g4 w4 S_; clear S; have S := S_; clear S_) | (refine ev_put1 S ?_ rfl rfl s67 rfl rfl (by repeat (first | exact Spot.here _ _ | apply Spot.there)) ?_ ?_ ?_; (first | exact want0 rfl | exact want1 rfl rfl rfl rfl); rfl; rfl; intro w_ S_; simp only [putAt, List.set_cons_zero, List.set_cons_succ] at S_; clear S; have S := S_; clear S_) | (refine ev_own1 S ?_ rfl o67 rfl (by repeat (first | exact Spot.here _ _ | apply Spot.there)) (by exact rfl) ?_; (first | exact want0 rfl | exact want1 rfl rfl rfl rfl)) | ((with_reducible refine gate_dst (N := 7) rfl ?_); refine ev_alloc #[.string ⟨#[]⟩, .slice none 0 0, .slice none 0 0, .slice none 0 0, .slice none 0 0, .slice none 0 0] rfl S ?_ 7 rfl rfl z26 ?_; (first | exact want0 rfl | exact want1 rfl rfl rfl rfl); intro g7 w7 S_; clear S; have S := S_; clear S_) | (refine ev_owns (vs := [_, _, _, _, _, _]) S ?_ rfl m26 rfl (by repeat (first | exact Spot.here _ _ | apply Spot.there)) (by exact rfl) ?_; (first | exact want0 rfl | exact want1 rfl rfl rfl rfl)) | (go_at_call 12; (with_reducible refine (put_no nm A29 c29 ex A32 c32 im A34 c34 co A36 c36 da A39 c39 re _ ⟨Ow.reads (pred_at S.out (a := Ow Kd.string 9 A29 c29 ex) (by repeat (first | exact Spot.here _ _ | apply Spot.there))), Ow.cap (pred_at S.out (a := Ow Kd.string 9 A29 c29 ex) (by repeat (first | exact Spot.here _ _ | apply Spot.there))), Ow.reads (pred_at S.out (a := Ow Kd.string 9 A32 c32 im) (by repeat (first | exact Spot.here _ _ | apply Spot.there))), Ow.cap (pred_at S.out (a := Ow Kd.string 9 A32 c32 im) (by repeat (first | exact Spot.here _ _ | apply Spot.there))), Ow.reads (pred_at S.out (a := Ow (Kd.int .u32) 43 A34 c34 co) (by repeat (first | exact Spot.here _ _ | apply Spot.there))), Ow.cap (pred_at S.out (a := Ow (Kd.int .u32) 43 A34 c34 co) (by repeat (first | exact Spot.here _ _ | apply Spot.there))), Ow.reads (pred_at S.out (a := Ow (Kd.int .u32) 43 A36 c36 da) (by repeat (first | exact Spot.here _ _ | apply Spot.there))), Ow.cap (pred_at S.out (a := Ow (Kd.int .u32) 43 A36 c36 da) (by repeat (first | exact Spot.here _ _ | apply Spot.there))), Ow.reads (pred_at S.out (a := Ow k50 50 A39 c39 re) (by repeat (first | exact Spot.here _ _ | apply Spot.there))), Ow.cap (pred_at S.out (a := Ow k50 50 A39 c39 re) (by repeat (first | exact Spot.here _ _ | apply Spot.there)))⟩ f HF.out hne0).mono ?_); rintro z_ w_ ⟨rfl, hb_⟩; have hb2_ := hb_; have S_ := Aside0.mk (S.out.keep hb2_); clear hb2_ hb_; clear S; have S := S_; clear S_) | (go_at_call 47; (with_reducible refine (err_z S (by repeat (first | exact Spot.here _ _ | apply Spot.there))).mono ?_); rintro z_ w_ ⟨rfl, S_⟩; clear S; have S := S_; clear S_) | (go_at_call 48; (with_reducible refine (PD.slices_Equal_byte_byte.calls (en.length + 1) A44 c44 en A c xs _ _ (Ow.reads (pred_at S.out (a := Ow (Kd.int .u8) 5 A44 c44 en) (by repeat (first | exact Spot.here _ _ | apply Spot.there)))) (Ow.cap (pred_at S.out (a := Ow (Kd.int .u8) 5 A44 c44 en) (by repeat (first | exact Spot.here _ _ | apply Spot.there)))) (Kd.C_below HC.out (below_end S (by repeat (first | exact Spot.here _ _ | apply Spot.there)) HW.out HG0.out HN2.out)) hc HEQ.out).mono ?_); rintro z_ w_ ⟨rfl, ⟨m_, rfl⟩⟩; have S_ := Aside0.mk (S.out.drewN m_); clear S; have S := S_; clear S_) | (go_at_call 48; (with_reducible refine (PD.slices_Equal_byte_byte.calls (en.length + 1) A44 c44 en A _ xs _ _ (Ow.reads (pred_at S.out (a := Ow (Kd.int .u8) 5 A44 c44 en) (by repeat (first | exact Spot.here _ _ | apply Spot.there)))) (Ow.cap (pred_at S.out (a := Ow (Kd.int .u8) 5 A44 c44 en) (by repeat (first | exact Spot.here _ _ | apply Spot.there)))) (Kd.C_below HC.out (below_end S (by repeat (first | exact Spot.here _ _ | apply Spot.there)) HW.out HG0.out HN2.out)) hc HEQ.out).mono ?_); rintro z_ w_ ⟨rfl, ⟨m_, rfl⟩⟩; have S_ := Aside0.mk (S.out.drewN m_); clear S; have S := S_; clear S_))
        refine retN (rs := [.cell 2 26, .tmp 3]) rfl rfl ?_ (Bk.vals S rfl (by repeat (first | exact Spot.here _ _ | apply Spot.there)) m26 (by exact rfl) (.tmp .nil)) ?_
        · simp
        refine ⟨?_, below_end S (by repeat (first | exact Spot.here _ _ | apply Spot.there)) HW.out HG0.out HN2.out⟩
        unfold Got
        rw [if_neg (fun h => by simp [h.1, h.2.1] at hq hne0)]
        rfl
    | false =>
      cases hq : (e5 != 0) with
      | true =>
        go_wp2_with (first | (refine ev_load1 ?_ rfl o67 rfl (old_still S (by repeat (first | exact Spot.here _ _ | apply Spot.there)) HP.out (by rintro (h | h); exact hne h; exact hg24 h)) ?_; (first | exact want0 rfl | exact want1 rfl rfl rfl rfl)) | (refine ev_owns (vs := [_, _, _, _, _, _]) S ?_ rfl m26 rfl (by repeat (first | exact Spot.here _ _ | apply Spot.there)) (by exact rfl) ?_; (first | exact want0 rfl | exact want1 rfl rfl rfl rfl)) | ((with_reducible refine gate_dst (N := 2) rfl ?_); refine ev_alloc #[.string ⟨#[]⟩, .slice none 0 0, .slice none 0 0, .slice none 0 0, .slice none 0 0, .slice none 0 0] rfl S ?_ 2 rfl rfl z26 ?_; (first | exact want0 rfl | exact want1 rfl rfl rfl rfl); intro g2 w2 S_; clear S; have S := S_; clear S_) | (refine ev_puts S ?_ rfl rfl s26 rfl rfl (by repeat (first | exact Spot.here _ _ | apply Spot.there)) rfl ?_ ?_ ?_; (first | exact want0 rfl | exact want1 rfl rfl rfl rfl); rfl; rfl; intro w_ S_; simp only [putAt, List.set_cons_zero, List.set_cons_succ] at S_; clear S; have S := S_; clear S_) | ((with_reducible refine gate_dst (N := 4) rfl ?_); refine ev_alloc #[.pointer none] rfl S ?_ 4 rfl rfl z67 ?_; (first | exact want0 rfl | exact want1 rfl rfl rfl rfl); intro g4 w4 S_; clear S; have S := S_; clear S_) | (refine ev_put1 S ?_ rfl rfl s67 rfl rfl (by repeat (first | exact Spot.here _ _ | apply Spot.there)) ?_ ?_ ?_; (first | exact want0 rfl | exact want1 rfl rfl rfl rfl); rfl; rfl; intro w_ S_; simp only [putAt, List.set_cons_zero, List.set_cons_succ] at S_; clear S; have S := S_; clear S_) | (refine ev_own1 S ?_ rfl o67 rfl (by repeat (first | exact Spot.here _ _ | apply Spot.there)) (by exact rfl) ?_; (first | exact want0 rfl | exact want1 rfl rfl rfl rfl)) | ((with_reducible refine gate_dst (N := 7) rfl ?_); refine ev_alloc #[.string ⟨#[]⟩, .slice none 0 0, .slice none 0 0, .slice none 0 0, .slice none 0 0, .slice none 0 0] rfl S ?_ 7 rfl rfl z26 ?_; (first | exact want0 rfl | exact want1 rfl rfl rfl rfl); intro g7 w7 S_; clear S; have S := S_; clear S_) | (refine ev_owns (vs := [_, _, _, _, _, _]) S ?_ rfl m26 rfl (by repeat (first | exact Spot.here _ _ | apply Spot.there)) (by exact rfl) ?_; (first | exact want0 rfl | exact want1 rfl rfl rfl rfl)) | (go_at_call 12; (with_reducible refine (put_okl nm A29 c29 ex A32 c32 im A34 c34 co A36 c36 da A39 c39 re _ ⟨Ow.reads (pred_at S.out (a := Ow Kd.string 9 A29 c29 ex) (by repeat (first | exact Spot.here _ _ | apply Spot.there))), Ow.cap (pred_at S.out (a := Ow Kd.string 9 A29 c29 ex) (by repeat (first | exact Spot.here _ _ | apply Spot.there))), Ow.reads (pred_at S.out (a := Ow Kd.string 9 A32 c32 im) (by repeat (first | exact Spot.here _ _ | apply Spot.there))), Ow.cap (pred_at S.out (a := Ow Kd.string 9 A32 c32 im) (by repeat (first | exact Spot.here _ _ | apply Spot.there))), Ow.reads (pred_at S.out (a := Ow (Kd.int .u32) 43 A34 c34 co) (by repeat (first | exact Spot.here _ _ | apply Spot.there))), Ow.cap (pred_at S.out (a := Ow (Kd.int .u32) 43 A34 c34 co) (by repeat (first | exact Spot.here _ _ | apply Spot.there))), Ow.reads (pred_at S.out (a := Ow (Kd.int .u32) 43 A36 c36 da) (by repeat (first | exact Spot.here _ _ | apply Spot.there))), Ow.cap (pred_at S.out (a := Ow (Kd.int .u32) 43 A36 c36 da) (by repeat (first | exact Spot.here _ _ | apply Spot.there))), Ow.reads (pred_at S.out (a := Ow k50 50 A39 c39 re) (by repeat (first | exact Spot.here _ _ | apply Spot.there))), Ow.cap (pred_at S.out (a := Ow k50 50 A39 c39 re) (by repeat (first | exact Spot.here _ _ | apply Spot.there)))⟩ f HF.out hne0 en HEN.out).mono ?_); rintro z_ w_ ⟨A44, c44, rfl, h1_, h2_, hb_⟩; have S_ := Aside0.mk (St.add S.out hb_ _ h1_ h2_); clear h1_ h2_ hb_; clear S; have S := S_; clear S_) | (go_at_call 47; (with_reducible refine (err_z S (by repeat (first | exact Spot.here _ _ | apply Spot.there))).mono ?_); rintro z_ w_ ⟨rfl, S_⟩; clear S; have S := S_; clear S_) | (go_at_call 48; (with_reducible refine (PD.slices_Equal_byte_byte.calls (en.length + 1) A44 c44 en A c xs _ _ (Ow.reads (pred_at S.out (a := Ow (Kd.int .u8) 5 A44 c44 en) (by repeat (first | exact Spot.here _ _ | apply Spot.there)))) (Ow.cap (pred_at S.out (a := Ow (Kd.int .u8) 5 A44 c44 en) (by repeat (first | exact Spot.here _ _ | apply Spot.there)))) (Kd.C_below HC.out (below_end S (by repeat (first | exact Spot.here _ _ | apply Spot.there)) HW.out HG0.out HN2.out)) hc HEQ.out).mono ?_); rintro z_ w_ ⟨rfl, ⟨m_, rfl⟩⟩; have S_ := Aside0.mk (S.out.drewN m_); clear S; have S := S_; clear S_) | (go_at_call 48; (with_reducible refine (PD.slices_Equal_byte_byte.calls (en.length + 1) A44 c44 en A _ xs _ _ (Ow.reads (pred_at S.out (a := Ow (Kd.int .u8) 5 A44 c44 en) (by repeat (first | exact Spot.here _ _ | apply Spot.there)))) (Ow.cap (pred_at S.out (a := Ow (Kd.int .u8) 5 A44 c44 en) (by repeat (first | exact Spot.here _ _ | apply Spot.there)))) (Kd.C_below HC.out (below_end S (by repeat (first | exact Spot.here _ _ | apply Spot.there)) HW.out HG0.out HN2.out)) hc HEQ.out).mono ?_); rintro z_ w_ ⟨rfl, ⟨m_, rfl⟩⟩; have S_ := Aside0.mk (S.out.drewN m_); clear S; have S := S_; clear S_))
        refine retN (rs := [.cell 2 26, .tmp 3]) rfl rfl ?_ (Bk.vals S rfl (by repeat (first | exact Spot.here _ _ | apply Spot.there)) m26 (by exact rfl) (.tmp .nil)) ?_
        · simp
        refine ⟨?_, below_end S (by repeat (first | exact Spot.here _ _ | apply Spot.there)) HW.out HG0.out HN2.out⟩
        unfold Got
        rw [if_neg (fun h => by simp [h.1, h.2.1] at hq hne0)]
        rfl
      | false =>
        first | (exfalso; exact hn4 ⟨by assumption, by simpa using hq⟩) | skip
        all_goals
          obtain ⟨r, hr⟩ : ∃ r, decide (en = xs) = r := ⟨_, rfl⟩
          have HEQ := Aside0.mk ((eq_f en xs (by rw [← HEN.out]; exact enc_max (chk_ok (HF.out.trans (by simpa using hne0))))).trans (by rw [hr]))
          have HR := Aside0.mk hr
          clear hr
          cases r with
          | false =>
            go_wp2_with (first | (refine ev_load1 ?_ rfl o67 rfl (old_still S (by repeat (first | exact Spot.here _ _ | apply Spot.there)) HP.out (by rintro (h | h); exact hne h; exact hg24 h)) ?_; (first | exact want0 rfl | exact want1 rfl rfl rfl rfl)) | (refine ev_owns (vs := [_, _, _, _, _, _]) S ?_ rfl m26 rfl (by repeat (first | exact Spot.here _ _ | apply Spot.there)) (by exact rfl) ?_; (first | exact want0 rfl | exact want1 rfl rfl rfl rfl)) | ((with_reducible refine gate_dst (N := 2) rfl ?_); refine ev_alloc #[.string ⟨#[]⟩, .slice none 0 0, .slice none 0 0, .slice none 0 0, .slice none 0 0, .slice none 0 0] rfl S ?_ 2 rfl rfl z26 ?_; (first | exact want0 rfl | exact want1 rfl rfl rfl rfl); intro g2 w2 S_; clear S; have S := S_; clear S_) | (refine ev_puts S ?_ rfl rfl s26 rfl rfl (by repeat (first | exact Spot.here _ _ | apply Spot.there)) rfl ?_ ?_ ?_; (first | exact want0 rfl | exact want1 rfl rfl rfl rfl); rfl; rfl; intro w_ S_; simp only [putAt, List.set_cons_zero, List.set_cons_succ] at S_; clear S; have S := S_; clear S_) | ((with_reducible refine gate_dst (N := 4) rfl ?_); refine ev_alloc #[.pointer none] rfl S ?_ 4 rfl rfl z67 ?_; (first | exact want0 rfl | exact want1 rfl rfl rfl rfl); intro g4 w4 S_; clear S; have S := S_; clear S_) | (refine ev_put1 S ?_ rfl rfl s67 rfl rfl (by repeat (first | exact Spot.here _ _ | apply Spot.there)) ?_ ?_ ?_; (first | exact want0 rfl | exact want1 rfl rfl rfl rfl); rfl; rfl; intro w_ S_; simp only [putAt, List.set_cons_zero, List.set_cons_succ] at S_; clear S; have S := S_; clear S_) | (refine ev_own1 S ?_ rfl o67 rfl (by repeat (first | exact Spot.here _ _ | apply Spot.there)) (by exact rfl) ?_; (first | exact want0 rfl | exact want1 rfl rfl rfl rfl)) | ((with_reducible refine gate_dst (N := 7) rfl ?_); refine ev_alloc #[.string ⟨#[]⟩, .slice none 0 0, .slice none 0 0, .slice none 0 0, .slice none 0 0, .slice none 0 0] rfl S ?_ 7 rfl rfl z26 ?_; (first | exact want0 rfl | exact want1 rfl rfl rfl rfl); intro g7 w7 S_; clear S; have S := S_; clear S_) | (refine ev_owns (vs := [_, _, _, _, _, _]) S ?_ rfl m26 rfl (by repeat (first | exact Spot.here _ _ | apply Spot.there)) (by exact rfl) ?_; (first | exact want0 rfl | exact want1 rfl rfl rfl rfl)) | (go_at_call 12; (with_reducible refine (put_okl nm A29 c29 ex A32 c32 im A34 c34 co A36 c36 da A39 c39 re _ ⟨Ow.reads (pred_at S.out (a := Ow Kd.string 9 A29 c29 ex) (by repeat (first | exact Spot.here _ _ | apply Spot.there))), Ow.cap (pred_at S.out (a := Ow Kd.string 9 A29 c29 ex) (by repeat (first | exact Spot.here _ _ | apply Spot.there))), Ow.reads (pred_at S.out (a := Ow Kd.string 9 A32 c32 im) (by repeat (first | exact Spot.here _ _ | apply Spot.there))), Ow.cap (pred_at S.out (a := Ow Kd.string 9 A32 c32 im) (by repeat (first | exact Spot.here _ _ | apply Spot.there))), Ow.reads (pred_at S.out (a := Ow (Kd.int .u32) 43 A34 c34 co) (by repeat (first | exact Spot.here _ _ | apply Spot.there))), Ow.cap (pred_at S.out (a := Ow (Kd.int .u32) 43 A34 c34 co) (by repeat (first | exact Spot.here _ _ | apply Spot.there))), Ow.reads (pred_at S.out (a := Ow (Kd.int .u32) 43 A36 c36 da) (by repeat (first | exact Spot.here _ _ | apply Spot.there))), Ow.cap (pred_at S.out (a := Ow (Kd.int .u32) 43 A36 c36 da) (by repeat (first | exact Spot.here _ _ | apply Spot.there))), Ow.reads (pred_at S.out (a := Ow k50 50 A39 c39 re) (by repeat (first | exact Spot.here _ _ | apply Spot.there))), Ow.cap (pred_at S.out (a := Ow k50 50 A39 c39 re) (by repeat (first | exact Spot.here _ _ | apply Spot.there)))⟩ f HF.out hne0 en HEN.out).mono ?_); rintro z_ w_ ⟨A44, c44, rfl, h1_, h2_, hb_⟩; have S_ := Aside0.mk (St.add S.out hb_ _ h1_ h2_); clear h1_ h2_ hb_; clear S; have S := S_; clear S_) | (go_at_call 47; (with_reducible refine (err_z S (by repeat (first | exact Spot.here _ _ | apply Spot.there))).mono ?_); rintro z_ w_ ⟨rfl, S_⟩; clear S; have S := S_; clear S_) | (go_at_call 48; (with_reducible refine (PD.slices_Equal_byte_byte.calls (en.length + 1) A44 c44 en A c xs _ _ (Ow.reads (pred_at S.out (a := Ow (Kd.int .u8) 5 A44 c44 en) (by repeat (first | exact Spot.here _ _ | apply Spot.there)))) (Ow.cap (pred_at S.out (a := Ow (Kd.int .u8) 5 A44 c44 en) (by repeat (first | exact Spot.here _ _ | apply Spot.there)))) (Kd.C_below HC.out (below_end S (by repeat (first | exact Spot.here _ _ | apply Spot.there)) HW.out HG0.out HN2.out)) hc HEQ.out).mono ?_); rintro z_ w_ ⟨rfl, ⟨m_, rfl⟩⟩; have S_ := Aside0.mk (S.out.drewN m_); clear S; have S := S_; clear S_) | (go_at_call 48; (with_reducible refine (PD.slices_Equal_byte_byte.calls (en.length + 1) A44 c44 en A _ xs _ _ (Ow.reads (pred_at S.out (a := Ow (Kd.int .u8) 5 A44 c44 en) (by repeat (first | exact Spot.here _ _ | apply Spot.there)))) (Ow.cap (pred_at S.out (a := Ow (Kd.int .u8) 5 A44 c44 en) (by repeat (first | exact Spot.here _ _ | apply Spot.there)))) (Kd.C_below HC.out (below_end S (by repeat (first | exact Spot.here _ _ | apply Spot.there)) HW.out HG0.out HN2.out)) hc HEQ.out).mono ?_); rintro z_ w_ ⟨rfl, ⟨m_, rfl⟩⟩; have S_ := Aside0.mk (S.out.drewN m_); clear S; have S := S_; clear S_))
            refine retN (rs := [.cell 2 26, .tmp 3]) rfl rfl ?_ (Bk.vals S rfl (by repeat (first | exact Spot.here _ _ | apply Spot.there)) m26 (by exact rfl) (.tmp .nil)) ?_
            · simp
            refine ⟨?_, below_end S (by repeat (first | exact Spot.here _ _ | apply Spot.there)) HW.out HG0.out HN2.out⟩
            unfold Got
            rw [if_neg (fun h => by have h1 := HR.out; rw [h.2.2] at h1; simp at h1)]
            rfl
          | true =>
            go_wp2_with (first | (refine ev_load1 ?_ rfl o67 rfl (old_still S (by repeat (first | exact Spot.here _ _ | apply Spot.there)) HP.out (by rintro (h | h); exact hne h; exact hg24 h)) ?_; (first | exact want0 rfl | exact want1 rfl rfl rfl rfl)) | (refine ev_owns (vs := [_, _, _, _, _, _]) S ?_ rfl m26 rfl (by repeat (first | exact Spot.here _ _ | apply Spot.there)) (by exact rfl) ?_; (first | exact want0 rfl | exact want1 rfl rfl rfl rfl)) | ((with_reducible refine gate_dst (N := 2) rfl ?_); refine ev_alloc #[.string ⟨#[]⟩, .slice none 0 0, .slice none 0 0, .slice none 0 0, .slice none 0 0, .slice none 0 0] rfl S ?_ 2 rfl rfl z26 ?_; (first | exact want0 rfl | exact want1 rfl rfl rfl rfl); intro g2 w2 S_; clear S; have S := S_; clear S_) | (refine ev_puts S ?_ rfl rfl s26 rfl rfl (by repeat (first | exact Spot.here _ _ | apply Spot.there)) rfl ?_ ?_ ?_; (first | exact want0 rfl | exact want1 rfl rfl rfl rfl); rfl; rfl; intro w_ S_; simp only [putAt, List.set_cons_zero, List.set_cons_succ] at S_; clear S; have S := S_; clear S_) | ((with_reducible refine gate_dst (N := 4) rfl ?_); refine ev_alloc #[.pointer none] rfl S ?_ 4 rfl rfl z67 ?_; (first | exact want0 rfl | exact want1 rfl rfl rfl rfl); intro g4 w4 S_; clear S; have S := S_; clear S_) | (refine ev_put1 S ?_ rfl rfl s67 rfl rfl (by repeat (first | exact Spot.here _ _ | apply Spot.there)) ?_ ?_ ?_; (first | exact want0 rfl | exact want1 rfl rfl rfl rfl); rfl; rfl; intro w_ S_; simp only [putAt, List.set_cons_zero, List.set_cons_succ] at S_; clear S; have S := S_; clear S_) | (refine ev_own1 S ?_ rfl o67 rfl (by repeat (first | exact Spot.here _ _ | apply Spot.there)) (by exact rfl) ?_; (first | exact want0 rfl | exact want1 rfl rfl rfl rfl)) | ((with_reducible refine gate_dst (N := 7) rfl ?_); refine ev_alloc #[.string ⟨#[]⟩, .slice none 0 0, .slice none 0 0, .slice none 0 0, .slice none 0 0, .slice none 0 0] rfl S ?_ 7 rfl rfl z26 ?_; (first | exact want0 rfl | exact want1 rfl rfl rfl rfl); intro g7 w7 S_; clear S; have S := S_; clear S_) | (refine ev_owns (vs := [_, _, _, _, _, _]) S ?_ rfl m26 rfl (by repeat (first | exact Spot.here _ _ | apply Spot.there)) (by exact rfl) ?_; (first | exact want0 rfl | exact want1 rfl rfl rfl rfl)) | (go_at_call 12; (with_reducible refine (put_okl nm A29 c29 ex A32 c32 im A34 c34 co A36 c36 da A39 c39 re _ ⟨Ow.reads (pred_at S.out (a := Ow Kd.string 9 A29 c29 ex) (by repeat (first | exact Spot.here _ _ | apply Spot.there))), Ow.cap (pred_at S.out (a := Ow Kd.string 9 A29 c29 ex) (by repeat (first | exact Spot.here _ _ | apply Spot.there))), Ow.reads (pred_at S.out (a := Ow Kd.string 9 A32 c32 im) (by repeat (first | exact Spot.here _ _ | apply Spot.there))), Ow.cap (pred_at S.out (a := Ow Kd.string 9 A32 c32 im) (by repeat (first | exact Spot.here _ _ | apply Spot.there))), Ow.reads (pred_at S.out (a := Ow (Kd.int .u32) 43 A34 c34 co) (by repeat (first | exact Spot.here _ _ | apply Spot.there))), Ow.cap (pred_at S.out (a := Ow (Kd.int .u32) 43 A34 c34 co) (by repeat (first | exact Spot.here _ _ | apply Spot.there))), Ow.reads (pred_at S.out (a := Ow (Kd.int .u32) 43 A36 c36 da) (by repeat (first | exact Spot.here _ _ | apply Spot.there))), Ow.cap (pred_at S.out (a := Ow (Kd.int .u32) 43 A36 c36 da) (by repeat (first | exact Spot.here _ _ | apply Spot.there))), Ow.reads (pred_at S.out (a := Ow k50 50 A39 c39 re) (by repeat (first | exact Spot.here _ _ | apply Spot.there))), Ow.cap (pred_at S.out (a := Ow k50 50 A39 c39 re) (by repeat (first | exact Spot.here _ _ | apply Spot.there)))⟩ f HF.out hne0 en HEN.out).mono ?_); rintro z_ w_ ⟨A44, c44, rfl, h1_, h2_, hb_⟩; have S_ := Aside0.mk (St.add S.out hb_ _ h1_ h2_); clear h1_ h2_ hb_; clear S; have S := S_; clear S_) | (go_at_call 47; (with_reducible refine (err_z S (by repeat (first | exact Spot.here _ _ | apply Spot.there))).mono ?_); rintro z_ w_ ⟨rfl, S_⟩; clear S; have S := S_; clear S_) | (go_at_call 48; (with_reducible refine (PD.slices_Equal_byte_byte.calls (en.length + 1) A44 c44 en A c xs _ _ (Ow.reads (pred_at S.out (a := Ow (Kd.int .u8) 5 A44 c44 en) (by repeat (first | exact Spot.here _ _ | apply Spot.there)))) (Ow.cap (pred_at S.out (a := Ow (Kd.int .u8) 5 A44 c44 en) (by repeat (first | exact Spot.here _ _ | apply Spot.there)))) (Kd.C_below HC.out (below_end S (by repeat (first | exact Spot.here _ _ | apply Spot.there)) HW.out HG0.out HN2.out)) hc HEQ.out).mono ?_); rintro z_ w_ ⟨rfl, ⟨m_, rfl⟩⟩; have S_ := Aside0.mk (S.out.drewN m_); clear S; have S := S_; clear S_) | (go_at_call 48; (with_reducible refine (PD.slices_Equal_byte_byte.calls (en.length + 1) A44 c44 en A _ xs _ _ (Ow.reads (pred_at S.out (a := Ow (Kd.int .u8) 5 A44 c44 en) (by repeat (first | exact Spot.here _ _ | apply Spot.there)))) (Ow.cap (pred_at S.out (a := Ow (Kd.int .u8) 5 A44 c44 en) (by repeat (first | exact Spot.here _ _ | apply Spot.there)))) (Kd.C_below HC.out (below_end S (by repeat (first | exact Spot.here _ _ | apply Spot.there)) HW.out HG0.out HN2.out)) hc HEQ.out).mono ?_); rintro z_ w_ ⟨rfl, ⟨m_, rfl⟩⟩; have S_ := Aside0.mk (S.out.drewN m_); clear S; have S := S_; clear S_))
            refine retN (rs := [.cell 2 26, .tmp 3]) rfl rfl ?_ (Bk.vals S rfl (by repeat (first | exact Spot.here _ _ | apply Spot.there)) m26 (by exact rfl) (.tmp .nil)) ?_
            · simp
            refine ⟨?_, below_end S (by repeat (first | exact Spot.here _ _ | apply Spot.there)) HW.out HG0.out HN2.out⟩
            unfold Got
            rw [if_pos ⟨by simpa using hq, by simpa using hne0, of_decide_eq_true HR.out⟩]
            have hle := HLE.out
            exact ⟨A29, c29, A32, c32, A34, c34, A36, c36, A39, c39, rfl, pred_at S.out (a := Ow Kd.string 9 A29 c29 ex) (by repeat (first | exact Spot.here _ _ | apply Spot.there)), pred_at S.out (a := Ow Kd.string 9 A32 c32 im) (by repeat (first | exact Spot.here _ _ | apply Spot.there)), pred_at S.out (a := Ow (Kd.int .u32) 43 A34 c34 co) (by repeat (first | exact Spot.here _ _ | apply Spot.there)), pred_at S.out (a := Ow (Kd.int .u32) 43 A36 c36 da) (by repeat (first | exact Spot.here _ _ | apply Spot.there)), pred_at S.out (a := Ow k50 50 A39 c39 re) (by repeat (first | exact Spot.here _ _ | apply Spot.there)),
              fun k hk => Nat.le_trans hle (HN29.out k hk), fun k hk => Nat.le_trans hle (HN32.out k hk), fun k hk => Nat.le_trans hle (HN34.out k hk), fun k hk => Nat.le_trans hle (HN36.out k hk), fun k hk => Nat.le_trans hle (HN39.out k hk), apart_at (a := Ow (Kd.int .u32) 43 A34 c34 co) (b := Ow Kd.string 9 A29 c29 ex) S.out (by repeat (first | exact Two.first (by repeat (first | exact Spot.here _ _ | apply Spot.there)) | exact Two.second (by repeat (first | exact Spot.here _ _ | apply Spot.there)) | apply Two.there)), apart_at (a := Ow (Kd.int .u32) 43 A34 c34 co) (b := Ow Kd.string 9 A32 c32 im) S.out (by repeat (first | exact Two.first (by repeat (first | exact Spot.here _ _ | apply Spot.there)) | exact Two.second (by repeat (first | exact Spot.here _ _ | apply Spot.there)) | apply Two.there)), apart_at (a := Ow (Kd.int .u32) 43 A34 c34 co) (b := Ow (Kd.int .u32) 43 A36 c36 da) S.out (by repeat (first | exact Two.first (by repeat (first | exact Spot.here _ _ | apply Spot.there)) | exact Two.second (by repeat (first | exact Spot.here _ _ | apply Spot.there)) | apply Two.there)), apart_at (a := Ow (Kd.int .u32) 43 A34 c34 co) (b := Ow k50 50 A39 c39 re) S.out (by repeat (first | exact Two.first (by repeat (first | exact Spot.here _ _ | apply Spot.there)) | exact Two.second (by repeat (first | exact Spot.here _ _ | apply Spot.there)) | apply Two.there))⟩

theorem get_long (A : Option Addr) (c : Nat) (xs : List Int) (w : World) (h : 16384 < xs.length) :
    Calls Try.prog 17 #[.slice A xs.length c] w fun z w' => z = .returned (.tuple #[.agg #[.string ⟨#[]⟩, .slice none 0 0, .slice none 0 0, .slice none 0 0, .slice none 0 0, .slice none 0 0], .int .i64 5]) ∧ Below w.heap.size w w' := by
  have S := Aside0.mk (St.start w)
  have d1 : decide ((xs.length : Int) > 16384) = true := decide_eq_true (by omega)
  go_enter Try.func17, Try.ntmps17
  go_wp2_with (first | ((with_reducible refine gate_dst (N := 2) rfl ?_); refine ev_alloc #[.string ⟨#[]⟩, .slice none 0 0, .slice none 0 0, .slice none 0 0, .slice none 0 0, .slice none 0 0] rfl S ?_ 2 rfl rfl z26 ?_; (first | exact want0 rfl | exact want1 rfl rfl rfl rfl); intro g2 w2 S_; clear S; have S := S_; clear S_) | (refine ev_puts S ?_ rfl rfl s26 rfl rfl (by repeat (first | exact Spot.here _ _ | apply Spot.there)) rfl ?_ ?_ ?_; (first | exact want0 rfl | exact want1 rfl rfl rfl rfl); rfl; rfl; intro w_ S_; simp only [putAt, List.set_cons_zero, List.set_cons_succ] at S_; clear S; have S := S_; clear S_) | ((with_reducible refine gate_dst (N := 4) rfl ?_); refine ev_alloc #[.pointer none] rfl S ?_ 4 rfl rfl z67 ?_; (first | exact want0 rfl | exact want1 rfl rfl rfl rfl); intro g4 w4 S_; clear S; have S := S_; clear S_) | (refine ev_put1 S ?_ rfl rfl s67 rfl rfl (by repeat (first | exact Spot.here _ _ | apply Spot.there)) ?_ ?_ ?_; (first | exact want0 rfl | exact want1 rfl rfl rfl rfl); rfl; rfl; intro w_ S_; simp only [putAt, List.set_cons_zero, List.set_cons_succ] at S_; clear S; have S := S_; clear S_) | (refine ev_own1 S ?_ rfl o67 rfl (by repeat (first | exact Spot.here _ _ | apply Spot.there)) (by exact rfl) ?_; (first | exact want0 rfl | exact want1 rfl rfl rfl rfl)) | ((with_reducible refine gate_dst (N := 7) rfl ?_); refine ev_alloc #[.string ⟨#[]⟩, .slice none 0 0, .slice none 0 0, .slice none 0 0, .slice none 0 0, .slice none 0 0] rfl S ?_ 7 rfl rfl z26 ?_; (first | exact want0 rfl | exact want1 rfl rfl rfl rfl); intro g7 w7 S_; clear S; have S := S_; clear S_) | (refine ev_owns (vs := [_, _, _, _, _, _]) S ?_ rfl m26 rfl (by repeat (first | exact Spot.here _ _ | apply Spot.there)) (by exact rfl) ?_; (first | exact want0 rfl | exact want1 rfl rfl rfl rfl)))
  refine retN (rs := [.cell 2 26, .tmp 3]) rfl rfl ?_ (Bk.vals S rfl (by repeat (first | exact Spot.here _ _ | apply Spot.there)) m26 (by exact rfl) (.tmp .nil)) ?_
  · simp
  exact ⟨rfl, S.out.below⟩

theorem get_short (A : Option Addr) (c : Nat) (xs : List Int) (w : World) (h : xs.length < 4) :
    Calls Try.prog 17 #[.slice A xs.length c] w fun z w' => z = .returned (.tuple #[.agg #[.string ⟨#[]⟩, .slice none 0 0, .slice none 0 0, .slice none 0 0, .slice none 0 0, .slice none 0 0], .int .i64 4]) ∧ Below w.heap.size w w' := by
  have S := Aside0.mk (St.start w)
  have d1 : decide ((xs.length : Int) > 16384) = false := decide_eq_false (by omega)
  have d2 : decide ((xs.length : Int) < 4) = true := decide_eq_true (by omega)
  go_enter Try.func17, Try.ntmps17
  go_wp2_with (first | ((with_reducible refine gate_dst (N := 2) rfl ?_); refine ev_alloc #[.string ⟨#[]⟩, .slice none 0 0, .slice none 0 0, .slice none 0 0, .slice none 0 0, .slice none 0 0] rfl S ?_ 2 rfl rfl z26 ?_; (first | exact want0 rfl | exact want1 rfl rfl rfl rfl); intro g2 w2 S_; clear S; have S := S_; clear S_) | (refine ev_puts S ?_ rfl rfl s26 rfl rfl (by repeat (first | exact Spot.here _ _ | apply Spot.there)) rfl ?_ ?_ ?_; (first | exact want0 rfl | exact want1 rfl rfl rfl rfl); rfl; rfl; intro w_ S_; simp only [putAt, List.set_cons_zero, List.set_cons_succ] at S_; clear S; have S := S_; clear S_) | ((with_reducible refine gate_dst (N := 4) rfl ?_); refine ev_alloc #[.pointer none] rfl S ?_ 4 rfl rfl z67 ?_; (first | exact want0 rfl | exact want1 rfl rfl rfl rfl); intro g4 w4 S_; clear S; have S := S_; clear S_) | (refine ev_put1 S ?_ rfl rfl s67 rfl rfl (by repeat (first | exact Spot.here _ _ | apply Spot.there)) ?_ ?_ ?_; (first | exact want0 rfl | exact want1 rfl rfl rfl rfl); rfl; rfl; intro w_ S_; simp only [putAt, List.set_cons_zero, List.set_cons_succ] at S_; clear S; have S := S_; clear S_) | (refine ev_own1 S ?_ rfl o67 rfl (by repeat (first | exact Spot.here _ _ | apply Spot.there)) (by exact rfl) ?_; (first | exact want0 rfl | exact want1 rfl rfl rfl rfl)) | ((with_reducible refine gate_dst (N := 7) rfl ?_); refine ev_alloc #[.string ⟨#[]⟩, .slice none 0 0, .slice none 0 0, .slice none 0 0, .slice none 0 0, .slice none 0 0] rfl S ?_ 7 rfl rfl z26 ?_; (first | exact want0 rfl | exact want1 rfl rfl rfl rfl); intro g7 w7 S_; clear S; have S := S_; clear S_) | (refine ev_owns (vs := [_, _, _, _, _, _]) S ?_ rfl m26 rfl (by repeat (first | exact Spot.here _ _ | apply Spot.there)) (by exact rfl) ?_; (first | exact want0 rfl | exact want1 rfl rfl rfl rfl)))
  refine retN (rs := [.cell 2 26, .tmp 3]) rfl rfl ?_ (Bk.vals S rfl (by repeat (first | exact Spot.here _ _ | apply Spot.there)) m26 (by exact rfl) (.tmp .nil)) ?_
  · simp
  exact ⟨rfl, S.out.below⟩
end Go.Proofs.Ytkoimdgpicmakaa.Ob
