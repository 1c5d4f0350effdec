/- The walk of QueueOrder. -/
import Derived.Test.YtipcflkijcccdaaWait
import Derived.Test.YtipcflkijcccdaaTy
import Derived.IntWalk
namespace Go.Proofs.Ytipcflkijcccdaa.Order
open Go.RowKit Go.Proofs.Ytipcflkijcccdaa.Sep Go.Proofs.YtipcflkijcccdaaW.PrintWords Go.Proofs.YtipcflkijcccdaaW.PrintLast Go.Proofs.YtipcflkijcccdaaW.PrintMore Go.Proofs.Ytipcflkijcccdaa.Qu Go.Proofs.Ytipcflkijcccdaa.Ev Go.Proofs.Ytipcflkijcccdaa.Ty
set_option linter.unusedVariables false
set_option linter.unusedSimpArgs false
/-- What waits: numbers that rise, each with the name that came under it. -/
structure Well (ns : List ByteArray) (i : Nat) (last : Int) (L : List It) : Prop where
  at_ : ∀ p ∈ L, ∃ j : Nat, p.num = j ∧ j < i ∧ ns[j]? = some p.name
  up : L.Pairwise (fun a b => a.num < b.num)
  above : ∀ p ∈ L, last < p.num
theorem str_at {w W : World} {ad : Addr} {ns : List ByteArray} (h : Kd.C Kd.string w (some ad) ns.length ns) (hb : Below w.heap.size w W) {j : Nat} {s : ByteArray} (hj : ns[j]? = some s) : W.cell? (ad.add j) = some (.string s) := by
  have hl := (List.getElem?_eq_some_iff.1 hj).1
  obtain ⟨ad', cs, e, hcl, hk, hcell⟩ := Kd.C_get (Kd.C_below h hb) ⟨#[]⟩ (j : Int) (by omega) (by omega)
  obtain rfl := Option.some.inj e
  rw [Int.toNat_natCast, List.getD_eq_getElem?_getD, hj] at hk
  obtain rfl : cs = [.string s] := hk
  have k0 := hcell 0 _ rfl
  rw [Int.toNat_natCast, show j * Kd.string.sz + 0 = j from Nat.mul_one j] at k0
  exact k0
theorem bool_at {w W : World} {ad : Addr} {ns : List Bool} (h : Kd.C Kd.bool w (some ad) ns.length ns) (hb : Below w.heap.size w W) {j : Nat} {s : Bool} (hj : ns[j]? = some s) : W.cell? (ad.add j) = some (.bool s) := by
  have hl := (List.getElem?_eq_some_iff.1 hj).1
  obtain ⟨ad', cs, e, hcl, hk, hcell⟩ := Kd.C_get (Kd.C_below h hb) false (j : Int) (by omega) (by omega)
  obtain rfl := Option.some.inj e
  rw [Int.toNat_natCast, List.getD_eq_getElem?_getD, hj] at hk
  obtain rfl : cs = [.bool s] := hk
  have k0 := hcell 0 _ rfl
  rw [Int.toNat_natCast, show j * Kd.bool.sz + 0 = j from Nat.mul_one j] at k0
  exact k0
theorem some_at {α : Type} {d : Kd α} {w : World} {A : Option Addr} {xs : List α} (h : d.C w A xs.length xs) (hp : 0 < xs.length) : ∃ ad, A = some ad := by
  obtain ⟨ad, e, _⟩ := h.2.2 hp
  exact ⟨ad, e⟩
/-- The first number of the list. -/
theorem WQ.head {B : Nat} {W : World} {A : Option Addr} {c : Nat} {x : Int} {ws : List Int} (h : (WQ B (.slice A (x :: ws).length c) (x :: ws)).pred W) : ∃ g o, A = some ⟨g, o, none⟩ ∧ W.cell? ⟨g, o, none⟩ = some (.int .i64 x) := by
  obtain ⟨g, o, cap, e, _⟩ := Kd.Q_form (WQ.q h) (by simp)
  injection e with e1 e2 e3
  subst e1
  obtain ⟨h1, h2, h3⟩ := Kd.Q_reads' (WQ.q h)
  obtain ⟨ad', cs, e, hcl, hk, hcell⟩ := Kd.C_get h3 0 0 (by omega) (by simp)
  obtain rfl := Option.some.inj e
  obtain rfl : cs = [.int .i64 x] := hk
  have k0 := hcell 0 _ rfl
  exact ⟨g, o, rfl, k0⟩
theorem WQ.tail {B : Nat} {W : World} {g o : Nat} {c : Nat} {x : Int} {ws : List Int} (h : (WQ B (.slice (some ⟨g, o, none⟩) (x :: ws).length c) (x :: ws)).pred W) : ∃ A', (if c = 1 then (some ⟨g, o, none⟩ : Option Addr) else some ⟨g, o + 1, none⟩) = A' ∧ (WQ B (.slice A' ws.length (c - 1)) ws).pred W := by
  refine ⟨_, rfl, ?_⟩
  have h1 := Kd.Q_drop (k := 1) (WQ.q h) (by simp)
  have e : (if c = 1 then (some ⟨g, o, none⟩ : Option Addr) else (some (⟨g, o, none⟩ : Addr)).map (·.add (1 * (Kd.int .i64).sz))) = (if c = 1 then (some ⟨g, o, none⟩ : Option Addr) else some ⟨g, o + 1, none⟩) := by
    split <;> rfl
  rw [e] at h1
  simp only [List.length_cons, Nat.add_sub_cancel, List.drop_succ_cons, List.drop_zero] at h1
  exact WQ.ofQ (Q_tight h1 _ (fun b hb => hb))
theorem Well.nil (ns : List ByteArray) (i : Nat) (last : Int) : Well ns i last [] := ⟨fun p h => (by cases h), List.Pairwise.nil, fun p h => (by cases h)⟩
theorem Well.full {ns : List ByteArray} {i : Nat} {last : Int} {L : List It} (h : Well ns i last L) : Well ns (i + 1) last L :=
  ⟨fun p hp => by obtain ⟨j, a, b, c⟩ := h.at_ p hp; exact ⟨j, a, by omega, c⟩, h.up, h.above⟩
theorem Well.push {ns : List ByteArray} {i : Nat} {last : Int} {L : List It} (h : Well ns i last L) {s : ByteArray} (hs : ns[i]? = some s) (hl : last < i) (k : Int) (o : List Int) : Well ns (i + 1) last (L ++ [⟨i, k, s, o⟩]) := by
  refine ⟨fun p hp => ?_, List.pairwise_append.2 ⟨h.up, List.pairwise_singleton _ _, fun a ha b hb => ?_⟩, fun p hp => ?_⟩
  · rcases List.mem_append.1 hp with hp | hp
    · exact h.full.at_ p hp
    · obtain rfl := List.mem_singleton.1 hp
      exact ⟨i, rfl, by omega, hs⟩
  · obtain rfl := List.mem_singleton.1 hb
    obtain ⟨j, e, hj, _⟩ := h.at_ a ha
    show a.num < (i : Int)
    omega
  · rcases List.mem_append.1 hp with hp | hp
    · exact h.above p hp
    · obtain rfl := List.mem_singleton.1 hp
      exact hl
theorem Well.pop {ns : List ByteArray} {i : Nat} {last : Int} {p : It} {L : List It} (h : Well ns i last (p :: L)) : Well ns i p.num L :=
  ⟨fun q hq => h.at_ q (List.mem_cons_of_mem _ hq), (List.pairwise_cons.1 h.up).2, (List.pairwise_cons.1 h.up).1⟩

section
variable {B : Nat} {w W : World} {g : Nat} {m : Int} {Lq : List It} {D : Nat → Prop} {La : List Asn} {F : Asn → List Asn}
theorem ring_step {m' : Int} {L' : List It} {D' : Nat → Prop} {W' : World} (S : Aside0 (St B w W La)) (hs : Spot La (RingA g m Lq D) F) (T : Turn W W' g) (hr : Ring W' g m' L' D') (hd : ∀ b, D' b → D b ∨ W.heap.size ≤ b) : Aside0 (St B w W' (F (RingA g m' L' D'))) :=
  ⟨turn_at S.out hs T.os T.tape T.output T.size (fun k hk hn => T.block k hk (fun e => hn (RingA.foot_iff.2 (.inl e)))) (RingA.mk hr) (fun k hk => by
    rcases RingA.foot_iff.1 hk with h | h
    · exact .inl (RingA.foot_iff.2 (.inl h))
    · exact (hd k h).imp_left (fun h => RingA.foot_iff.2 (.inr h)))⟩
theorem ringOf (S : Aside0 (St B w W La)) (hs : Spot La (RingA g m Lq D) F) : Ring W g m Lq D := St.ringOf S.out hs.mem
theorem newr_ev (S : Aside0 (St B w W La)) : Calls Try.prog 8 #[] W fun z W' => ∃ g, z = .returned (.pointer (some ⟨g, 0, none⟩)) ∧ Aside0 (St B w W' (RingA g 0 [] (fun _ => False) :: La)) := by
  refine (new_calls W).mono ?_
  rintro z W' ⟨g, rfl, hg, hl, hb⟩
  exact ⟨g, rfl, ⟨St.add S.out hb _ (RingA.mk (Ring.new hl)) (RingA.at hg (fun b hb => hb.elim))⟩⟩
theorem pushn_ok (nm : ByteArray) (S : Aside0 (St B w W La)) (hs : Spot La (RingA g m Lq D) F) (hf : Lq.length < 8) (hm0 : 0 ≤ m) (hm1 : m < 4611686018427387904) :
    Calls Try.prog 11 #[.pointer (some ⟨g, 0, none⟩), .agg #[.int .u8 0, .string nm, .slice none 0 0]] W fun z W' => z = .returned (.tuple #[.int .i64 m, .int .i64 0]) ∧ ∃ D', Aside0 (St B w W' (F (RingA g (m + 1) (Lq ++ [⟨m, 0, nm, []⟩]) D'))) := by
  refine (ring_push_nil g m Lq D 0 nm W (ringOf S hs) hf hm0 hm1).mono ?_
  rintro z W' ⟨rfl, D', hd, hr, hT⟩
  exact ⟨rfl, D', ring_step S hs hT hr hd⟩
theorem pushn_full (nm : ByteArray) (S : Aside0 (St B w W La)) (hs : Spot La (RingA g m Lq D) F) (hf : ¬ Lq.length < 8) (hm0 : 0 ≤ m) (hm1 : m < 4611686018427387904) :
    Calls Try.prog 11 #[.pointer (some ⟨g, 0, none⟩), .agg #[.int .u8 0, .string nm, .slice none 0 0]] W fun z W' => z = .returned (.tuple #[.int .i64 m, .int .i64 31]) ∧ ∃ D', Aside0 (St B w W' (F (RingA g (m + 1) Lq D'))) := by
  refine (ring_push_nil_full g m Lq D 0 nm W (ringOf S hs) hf hm0 hm1).mono ?_
  rintro z W' ⟨rfl, D', hd, hr, hT⟩
  exact ⟨rfl, D', ring_step S hs hT hr hd⟩
theorem popr {L0 : List It} {nu ki : Int} {na : ByteArray} {ob : List Int} (S : Aside0 (St B w W La)) (hs : Spot La (RingA g m L0 D) F) (he : L0 = ⟨nu, ki, na, ob⟩ :: Lq) :
    Calls Try.prog 12 #[.pointer (some ⟨g, 0, none⟩)] W fun z W' => ∃ A n c, z = .returned (.tuple #[.agg #[.int .i64 nu, .int .u8 ki, .string na, .slice A n c], .bool true]) ∧ Aside0 (St B w W' (F (RingA g m Lq D))) := by
  subst he
  refine (ring_pop g m ⟨nu, ki, na, ob⟩ Lq D W (ringOf S hs)).mono ?_
  rintro z W' ⟨A, c, rfl, _, _, _, _, hr, hT⟩
  exact ⟨A, _, c, rfl, ring_step S hs hT hr (fun b hb => .inl hb)⟩
theorem popr0 (S : Aside0 (St B w W La)) (hs : Spot La (RingA g m [] D) F) :
    Calls Try.prog 12 #[.pointer (some ⟨g, 0, none⟩)] W fun z W' => z = .returned (.tuple #[.agg #[.int .i64 0, .int .u8 0, .string ⟨#[]⟩, .slice none 0 0], .bool false]) ∧ Aside0 (St B w W' La) := by
  refine (ring_pop0 g m D W (ringOf S hs)).mono ?_
  rintro z W' ⟨rfl, hb⟩
  exact ⟨rfl, ⟨S.out.keep hb⟩⟩
theorem camer (S : Aside0 (St B w W La)) (hs : Spot La (RingA g m Lq D) F) :
    Calls Try.prog 13 #[.pointer (some ⟨g, 0, none⟩)] W fun z W' => z = .returned (.int .i64 m) ∧ W' = W := ring_came g m Lq D W (ringOf S hs)
/-- Appended behind what waits. -/
theorem wq_step {v v' : Value} {ws ws' : List Int} {W' : World} (S : Aside0 (St B w W La)) (hs : Spot La (WQ B v ws) F) (T : W.grownBy W' v.ownBlock) (hr : (WQ B v' ws').pred W') (hat : v'.ownBlock = v.ownBlock ∨ ∃ b, v'.ownBlock = some b ∧ W.heap.size ≤ b) : Aside0 (St B w W' (F (WQ B v' ws'))) :=
  ⟨turn_at S.out hs T.os T.tape T.output T.size (fun k h1 h2 => T.block k h1 (fun e => h2 (WQ.foot_iff.2 e.symm))) hr (fun k hk => by
    have hk' := WQ.foot_iff.1 hk
    rcases hat with e | ⟨b, e, hb⟩
    · exact .inl (WQ.foot_iff.2 (e.symm.trans hk'))
    · rw [e] at hk'
      have := Option.some.inj hk'
      exact .inr (by omega))⟩
theorem wq_len {x : List Int} {A : Option Addr} {n c : Nat} (S : Aside0 (St B w W La)) (hs : Spot La (WQ B (.slice A n c) x) F) : n = x.length := (Kd.Q_reads' (WQ.q (pred_at S.out hs))).1
theorem wq_head {x : Int} {w0s ws : List Int} {A : Option Addr} {n c : Nat} (S : Aside0 (St B w W La)) (hs : Spot La (WQ B (.slice A n c) w0s) F) (he : w0s = x :: ws) : ∃ g o, A = some ⟨g, o, none⟩ ∧ W.cell? ⟨g, o, none⟩ = some (.int .i64 x) := by
  subst he
  have h := pred_at S.out hs
  obtain rfl := wq_len S hs
  obtain ⟨g, o, e, h2⟩ := WQ.head h
  exact ⟨g, o, e, h2⟩
theorem wq_tail {x : Int} {ws : List Int} {g o c n : Nat} (S : Aside0 (St B w W La)) (hs : Spot La (WQ B (.slice (some ⟨g, o, none⟩) n c) (x :: ws)) F) : Aside0 (St B w W (F (WQ B (.slice (if c = 1 then (some ⟨g, o, none⟩ : Option Addr) else some ⟨g, o + 1, none⟩) (n - 1) (c - 1)) ws))) := by
  have h := pred_at S.out hs
  obtain rfl := wq_len S hs
  obtain ⟨A', e, h2⟩ := WQ.tail h
  rw [e]
  have hl : (x :: ws).length - 1 = ws.length := by simp
  rw [hl]
  refine ⟨swap_at S.out hs h2 (fun k hk => ?_)⟩
  have hk' := WQ.foot_iff.1 hk
  refine WQ.foot_iff.2 ?_
  rw [← hk', ← e]
  split <;> rfl
end
theorem wq_cut {B : Nat} {w W : World} {La : List Asn} {F : Asn → List Asn} {x : Int} {w0s ws : List Int} {g o c n : Nat} (S : Aside0 (St B w W La)) (hs : Spot La (WQ B (.slice (some ⟨g, o, none⟩) n c) w0s) F) (he : w0s = x :: ws) :
    ∃ A' n' c', (∀ W : World, (Instr.slice 40 (.slice (some ⟨g, o, none⟩) n c) (some (.int .i64 1)) none none).run Try.prog W = .ok (.slice A' n' c') W) ∧ n' = ws.length ∧ Aside0 (St B w W (F (WQ B (.slice A' n' c') ws))) := by
  subst he
  have hn := wq_len S hs
  obtain ⟨i0, hi, hz⟩ := Option.map_eq_some_iff.1 info3
  have h := cut_from (P := Try.prog) 40 3 .i64 Try.underlying40 hi 1 (by have := congrArg (fun x => x.2.1) hz; exact this) (some ⟨g, o, none⟩) n c 1 (by omega) (by rw [hn]; simp only [List.length_cons]; omega)
  have e : (if c = (1 : Int).toNat then (some ⟨g, o, none⟩ : Option Addr) else (some (⟨g, o, none⟩ : Addr)).map (·.add ((1 : Int).toNat * 1))) = (if c = 1 then (some ⟨g, o, none⟩ : Option Addr) else some ⟨g, o + 1, none⟩) := by
    show (if c = 1 then _ else _) = _
    split
    · rfl
    · show some ((⟨g, o, none⟩ : Addr).add 1) = _
      rfl
  rw [e] at h
  exact ⟨_, _, _, h, by rw [hn]; simp, wq_tail S hs⟩
theorem wq_open {B : Nat} {v : Value} {ws : List Int} {W : World} (h : (WQ B v ws).pred W) : (Kd.int .i64).Q 3 W B (fun _ => True) v ws := Q_tight (WQ.q h) _ (fun _ _ => trivial)
theorem wq_app {B : Nat} {w W W' : World} {La : List Asn} {F : Asn → List Asn} {v v' : Value} {ws ws' : List Int} (S : Aside0 (St B w W La)) (hs : Spot La (WQ B v ws) F) (ho : (Kd.int .i64).Q 3 W' B (fun _ => True) v' ws') (T : W.grownBy W' v.ownBlock) (hat : v'.ownBlock = v.ownBlock ∨ ∃ b, v'.ownBlock = some b ∧ W.heap.size ≤ b) :
    ∃ A n c, v' = .slice A n c ∧ Aside0 (St B w W' (F (WQ B (.slice A n c) ws'))) := by
  obtain ⟨A, c, rfl, _⟩ := Kd.Q_slice ho
  exact ⟨A, _, c, rfl, wq_step S hs T (WQ.ofQ (Q_tight ho _ (fun b hb => hb))) hat⟩

set_option maxRecDepth 100000 in
set_option maxHeartbeats 16000000 in
theorem order (A : Option Addr) (ns : List ByteArray) (c : Nat) (A1 : Option Addr) (ps : List Bool) (c1 : Nat) (w : World) (hC : Kd.C Kd.string w A ns.length ns) (hc : ns.length ≤ c) (hC1 : Kd.C Kd.bool w A1 ps.length ps) (hc1 : ps.length ≤ c1) (hp : ps.length ≤ 140737488351232) :
    Calls Try.prog 4 #[.slice A ns.length c, .slice A1 ps.length c1] w fun z w' => z = .returned (.bool true) ∧ Below w.heap.size w w' := by
  have HC := Aside0.mk hC
  have HC1 := Aside0.mk hC1
  have S := Aside0.mk (St.start w)
  clear hC hC1
  by_cases hlen : (100 : Int) < (ns.length : Int)
  · have hd1 : decide ((ns.length : Int) > 100) = true := decide_eq_true hlen
    go_enter Try.func4, Try.ntmps4
    go_wp2_with (first | ((with_reducible refine gate_builtin (b := .append) (xs := #[.tmp 51, .tmp 53]) rfl ?_); at_builtin; refine Kd.Q_append (Kd.int .i64) (w0 := w) w.heap.size rfl (.tmp 51) (.tmp 53) 40 3 (.int .i64 0) 8 rfl Try.underlying40 info3 rfl (by decide) (by omega) (.slice A6 n6 c6) ws (i : Int) [.int .i64 i] (fun _ => True) (fun _ => False) rfl rfl rfl (fun _ h => h.elim) (fun _ _ => trivial) (wq_open (S.out.holds (WQ w.heap.size (.slice A6 n6 c6) ws) (Spot.mem (by repeat (first | exact Spot.here _ _ | apply Spot.there))))) S.out.below S.out.below.size (by have := HL0.out; omega) ?_; intro v7 w7 ho hb hg hat; obtain ⟨A7, n7, c7, hv7, S_⟩ := wq_app S (by repeat (first | exact Spot.here _ _ | apply Spot.there)) ho hg hat; subst hv7; clear ho hb hg hat; clear S; have S := S_; clear S_; (try dsimp only at S)) | (refine ev_load1 ?_ rfl o9 rfl (old_ S K1.out) ?_; (first | exact want0 rfl | exact want1 rfl rfl rfl rfl)) | (refine ev_load1 ?_ rfl o4 rfl (old_ S K2.out) ?_; (first | exact want0 rfl | exact want1 rfl rfl rfl rfl)) | (refine ev_own1 S ?_ rfl o9 rfl (by repeat (first | exact Spot.here _ _ | apply Spot.there)) (by exact rfl) ?_; (first | exact want0 rfl | exact want1 rfl rfl rfl rfl)) | (refine ev_own1 S ?_ rfl o4 rfl (by repeat (first | exact Spot.here _ _ | apply Spot.there)) (by exact rfl) ?_; (first | exact want0 rfl | exact want1 rfl rfl rfl rfl)) | ((with_reducible refine gate_dst (N := 11) rfl ?_); refine ev_alloc #[.int .i64 0, .int .u8 0, .string ⟨#[]⟩, .slice none 0 0] rfl S ?_ 11 rfl rfl z45 ?_; (first | exact want0 rfl | exact want1 rfl rfl rfl rfl); intro g11 w11 S_; clear S; have S := S_; clear S_) | (refine ev_puts S ?_ rfl rfl s45 rfl rfl (by repeat (first | exact Spot.here _ _ | apply Spot.there)) rfl ?_ ?_ ?_; (first | exact want0 rfl | exact want1 rfl rfl rfl rfl); rfl; rfl; intro w_ S_; simp only [putAt, List.set_cons_zero, List.set_cons_succ] at S_; clear S; have S := S_; clear S_) | (refine ev_own1 S ?_ rfl o3 rfl (by repeat (first | exact Spot.here _ _ | apply Spot.there)) (by exact rfl) ?_; (first | exact want0 rfl | exact want1 rfl rfl rfl rfl)) | ((with_reducible refine gate_dst (N := 13) rfl ?_); refine ev_alloc #[.int .i64 0, .int .u8 0, .string ⟨#[]⟩, .slice none 0 0] rfl S ?_ 13 rfl rfl z45 ?_; (first | exact want0 rfl | exact want1 rfl rfl rfl rfl); intro g13 w13 S_; clear S; have S := S_; clear S_) | ((with_reducible refine gate_dst (N := 15) rfl ?_); refine ev_alloc #[.int .i64 0, .int .u8 0, .string ⟨#[]⟩, .slice none 0 0] rfl S ?_ 15 rfl rfl z45 ?_; (first | exact want0 rfl | exact want1 rfl rfl rfl rfl); intro g15 w15 S_; clear S; have S := S_; clear S_) | (go_at_call 7; (with_reducible refine (awake_calls _).mono ?_); rintro z_ w_ ⟨rfl, hb_⟩; have S_ := Aside0.mk (S.out.keep hb_); clear hb_; clear S; have S := S_; clear S_) | (go_at_call 8; have c_ := newr_ev S; (with_reducible refine c_.mono ?_); clear c_; rintro z_ w_ ⟨g, rfl, S_⟩; clear S; have S := S_; clear S_) | (go_at_call 11; have c_ := pushn_ok nm S (by repeat (first | exact Spot.here _ _ | apply Spot.there)) hf hm0 hm1; (with_reducible refine c_.mono ?_); clear c_; rintro z_ w_ ⟨rfl, D2, S_⟩; clear S; have S := S_; clear S_; (try dsimp only at S)) | (go_at_call 11; have c_ := pushn_full nm S (by repeat (first | exact Spot.here _ _ | apply Spot.there)) hf hm0 hm1; (with_reducible refine c_.mono ?_); clear c_; rintro z_ w_ ⟨rfl, D2, S_⟩; clear S; have S := S_; clear S_; (try dsimp only at S)) | (go_at_call 12; have c_ := popr S (by repeat (first | exact Spot.here _ _ | apply Spot.there)) HPL.out; (with_reducible refine c_.mono ?_); clear c_; rintro z_ w_ ⟨A5, n5, c5, rfl, S_⟩; clear S; have S := S_; clear S_; (try dsimp only at S)) | (go_at_call 12; have c_ := popr0 S (by repeat (first | exact Spot.here _ _ | apply Spot.there)); (with_reducible refine c_.mono ?_); clear c_; rintro z_ w_ ⟨rfl, S_⟩; clear S; have S := S_; clear S_) | (go_at_call 13; have c_ := camer S (by repeat (first | exact Spot.here _ _ | apply Spot.there)); (with_reducible refine c_.mono ?_); clear c_; rintro z_ w_ ⟨rfl, rfl⟩))
    go_ret
    exact ⟨rfl, S.out.below⟩
  have hd1 : decide ((ns.length : Int) > 100) = false := decide_eq_false hlen
  have HLEN := Aside0.mk hlen
  clear hlen
  go_enter Try.func4, Try.ntmps4
  go_wp2_with (first | ((with_reducible refine gate_builtin (b := .append) (xs := #[.tmp 51, .tmp 53]) rfl ?_); at_builtin; refine Kd.Q_append (Kd.int .i64) (w0 := w) w.heap.size rfl (.tmp 51) (.tmp 53) 40 3 (.int .i64 0) 8 rfl Try.underlying40 info3 rfl (by decide) (by omega) (.slice A6 n6 c6) ws (i : Int) [.int .i64 i] (fun _ => True) (fun _ => False) rfl rfl rfl (fun _ h => h.elim) (fun _ _ => trivial) (wq_open (S.out.holds (WQ w.heap.size (.slice A6 n6 c6) ws) (Spot.mem (by repeat (first | exact Spot.here _ _ | apply Spot.there))))) S.out.below S.out.below.size (by have := HL0.out; omega) ?_; intro v7 w7 ho hb hg hat; obtain ⟨A7, n7, c7, hv7, S_⟩ := wq_app S (by repeat (first | exact Spot.here _ _ | apply Spot.there)) ho hg hat; subst hv7; clear ho hb hg hat; clear S; have S := S_; clear S_; (try dsimp only at S)) | (refine ev_load1 ?_ rfl o9 rfl (old_ S K1.out) ?_; (first | exact want0 rfl | exact want1 rfl rfl rfl rfl)) | (refine ev_load1 ?_ rfl o4 rfl (old_ S K2.out) ?_; (first | exact want0 rfl | exact want1 rfl rfl rfl rfl)) | (refine ev_own1 S ?_ rfl o9 rfl (by repeat (first | exact Spot.here _ _ | apply Spot.there)) (by exact rfl) ?_; (first | exact want0 rfl | exact want1 rfl rfl rfl rfl)) | (refine ev_own1 S ?_ rfl o4 rfl (by repeat (first | exact Spot.here _ _ | apply Spot.there)) (by exact rfl) ?_; (first | exact want0 rfl | exact want1 rfl rfl rfl rfl)) | ((with_reducible refine gate_dst (N := 11) rfl ?_); refine ev_alloc #[.int .i64 0, .int .u8 0, .string ⟨#[]⟩, .slice none 0 0] rfl S ?_ 11 rfl rfl z45 ?_; (first | exact want0 rfl | exact want1 rfl rfl rfl rfl); intro g11 w11 S_; clear S; have S := S_; clear S_) | (refine ev_puts S ?_ rfl rfl s45 rfl rfl (by repeat (first | exact Spot.here _ _ | apply Spot.there)) rfl ?_ ?_ ?_; (first | exact want0 rfl | exact want1 rfl rfl rfl rfl); rfl; rfl; intro w_ S_; simp only [putAt, List.set_cons_zero, List.set_cons_succ] at S_; clear S; have S := S_; clear S_) | (refine ev_own1 S ?_ rfl o3 rfl (by repeat (first | exact Spot.here _ _ | apply Spot.there)) (by exact rfl) ?_; (first | exact want0 rfl | exact want1 rfl rfl rfl rfl)) | ((with_reducible refine gate_dst (N := 13) rfl ?_); refine ev_alloc #[.int .i64 0, .int .u8 0, .string ⟨#[]⟩, .slice none 0 0] rfl S ?_ 13 rfl rfl z45 ?_; (first | exact want0 rfl | exact want1 rfl rfl rfl rfl); intro g13 w13 S_; clear S; have S := S_; clear S_) | ((with_reducible refine gate_dst (N := 15) rfl ?_); refine ev_alloc #[.int .i64 0, .int .u8 0, .string ⟨#[]⟩, .slice none 0 0] rfl S ?_ 15 rfl rfl z45 ?_; (first | exact want0 rfl | exact want1 rfl rfl rfl rfl); intro g15 w15 S_; clear S; have S := S_; clear S_) | (go_at_call 7; (with_reducible refine (awake_calls _).mono ?_); rintro z_ w_ ⟨rfl, hb_⟩; have S_ := Aside0.mk (S.out.keep hb_); clear hb_; clear S; have S := S_; clear S_) | (go_at_call 8; have c_ := newr_ev S; (with_reducible refine c_.mono ?_); clear c_; rintro z_ w_ ⟨g, rfl, S_⟩; clear S; have S := S_; clear S_) | (go_at_call 11; have c_ := pushn_ok nm S (by repeat (first | exact Spot.here _ _ | apply Spot.there)) hf hm0 hm1; (with_reducible refine c_.mono ?_); clear c_; rintro z_ w_ ⟨rfl, D2, S_⟩; clear S; have S := S_; clear S_; (try dsimp only at S)) | (go_at_call 11; have c_ := pushn_full nm S (by repeat (first | exact Spot.here _ _ | apply Spot.there)) hf hm0 hm1; (with_reducible refine c_.mono ?_); clear c_; rintro z_ w_ ⟨rfl, D2, S_⟩; clear S; have S := S_; clear S_; (try dsimp only at S)) | (go_at_call 12; have c_ := popr S (by repeat (first | exact Spot.here _ _ | apply Spot.there)) HPL.out; (with_reducible refine c_.mono ?_); clear c_; rintro z_ w_ ⟨A5, n5, c5, rfl, S_⟩; clear S; have S := S_; clear S_; (try dsimp only at S)) | (go_at_call 12; have c_ := popr0 S (by repeat (first | exact Spot.here _ _ | apply Spot.there)); (with_reducible refine c_.mono ?_); clear c_; rintro z_ w_ ⟨rfl, S_⟩; clear S; have S := S_; clear S_) | (go_at_call 13; have c_ := camer S (by repeat (first | exact Spot.here _ _ | apply Spot.there)); (with_reducible refine c_.mono ?_); clear c_; rintro z_ w_ ⟨rfl, rfl⟩))
  have n0_ := Aside0.mk (S.out.cons (WQ w.heap.size (.slice none 0 0) []) (by exact WQ.nil _ _) (fun k hk => (WQ.nilf hk).elim) (fun b hb k hk => (WQ.nilf hk).elim))
  clear S
  have S := n0_
  clear n0_
  go_loopw [6, 7, 8] (fun v6 v7 v8 wr => ∃ (i : Nat) (L : List It) (D : Nat → Prop) (A6 : Option Addr) (n6 c6 : Nat) (ws : List Int) (last : Int), i ≤ ns.length ∧ v6 = .slice A6 n6 c6 ∧ v7 = .int .i64 last ∧ v8 = .int .i64 i ∧ -1 ≤ last ∧ last < i ∧ L.length ≤ 8 ∧ n6 = L.length ∧ Aside0 (ws = L.map It.num) ∧ Aside0 (Well ns i last L) ∧ Aside0 (St w.heap.size w wr [WQ w.heap.size (.slice A6 n6 c6) ws, RingA g i L D])) (fun _ _ v8 _ => ns.length - (intOf v8).toNat)
  case atStart => exact ⟨0, [], _, none, 0, 0, [], -1, Nat.zero_le _, rfl, rfl, rfl, by omega, by omega, by simp, rfl, ⟨rfl⟩, ⟨Well.nil _ _ _⟩, S⟩
  case round =>
    clear S
    obtain ⟨i, L, D, A6, n6, c6, ws, last, hi, rfl, rfl, rfl, hl0, hl1, h8, hn6, HW, HL, S⟩ := hrel
    by_cases hil : i < ns.length
    · have hd2 : decide ((i : Int) < (ns.length : Int)) = true := decide_eq_true (by omega)
      have hd3 : decide (i < ns.length) = true := decide_eq_true hil
      have hi0 : (0 : Int) ≤ (i : Int) := by omega
      have hi9 : (i : Int) < (ns.length : Int) := by omega
      have hm0 : (0 : Int) ≤ (i : Int) := by omega
      have hm1 : (i : Int) < 4611686018427387904 := by have := HLEN.out; omega
      obtain ⟨ad, rfl⟩ := some_at HC.out (by omega)
      obtain ⟨nm, hnm⟩ : ∃ nm, ns[i]? = some nm := ⟨_, List.getElem?_eq_getElem hil⟩
      have K1 := Aside0.mk (str_at HC.out (Below.refl _ _) hnm)
      have HNM := Aside0.mk hnm
      have HN6 := Aside0.mk hn6
      have HL0 := Aside0.mk (show ws.length < 9 by rw [HW.out, List.length_map]; omega)
      clear hnm hn6
      by_cases hf : L.length < 8
      · have hd4 : decide ((n6 : Int) < 8) = true := decide_eq_true (by have := HN6.out; omega)
        by_cases hip : (ps.length : Int) ≤ (i : Int)
        · have hd5 : decide ((i : Int) ≥ (ps.length : Int)) = true := decide_eq_true hip
          go_wp2_with (first | ((with_reducible refine gate_builtin (b := .append) (xs := #[.tmp 51, .tmp 53]) rfl ?_); at_builtin; refine Kd.Q_append (Kd.int .i64) (w0 := w) w.heap.size rfl (.tmp 51) (.tmp 53) 40 3 (.int .i64 0) 8 rfl Try.underlying40 info3 rfl (by decide) (by omega) (.slice A6 n6 c6) ws (i : Int) [.int .i64 i] (fun _ => True) (fun _ => False) rfl rfl rfl (fun _ h => h.elim) (fun _ _ => trivial) (wq_open (S.out.holds (WQ w.heap.size (.slice A6 n6 c6) ws) (Spot.mem (by repeat (first | exact Spot.here _ _ | apply Spot.there))))) S.out.below S.out.below.size (by have := HL0.out; omega) ?_; intro v7 w7 ho hb hg hat; obtain ⟨A7, n7, c7, hv7, S_⟩ := wq_app S (by repeat (first | exact Spot.here _ _ | apply Spot.there)) ho hg hat; subst hv7; clear ho hb hg hat; clear S; have S := S_; clear S_; (try dsimp only at S)) | (refine ev_load1 ?_ rfl o9 rfl (old_ S K1.out) ?_; (first | exact want0 rfl | exact want1 rfl rfl rfl rfl)) | (refine ev_load1 ?_ rfl o4 rfl (old_ S K2.out) ?_; (first | exact want0 rfl | exact want1 rfl rfl rfl rfl)) | (refine ev_own1 S ?_ rfl o9 rfl (by repeat (first | exact Spot.here _ _ | apply Spot.there)) (by exact rfl) ?_; (first | exact want0 rfl | exact want1 rfl rfl rfl rfl)) | (refine ev_own1 S ?_ rfl o4 rfl (by repeat (first | exact Spot.here _ _ | apply Spot.there)) (by exact rfl) ?_; (first | exact want0 rfl | exact want1 rfl rfl rfl rfl)) | ((with_reducible refine gate_dst (N := 11) rfl ?_); refine ev_alloc #[.int .i64 0, .int .u8 0, .string ⟨#[]⟩, .slice none 0 0] rfl S ?_ 11 rfl rfl z45 ?_; (first | exact want0 rfl | exact want1 rfl rfl rfl rfl); intro g11 w11 S_; clear S; have S := S_; clear S_) | (refine ev_puts S ?_ rfl rfl s45 rfl rfl (by repeat (first | exact Spot.here _ _ | apply Spot.there)) rfl ?_ ?_ ?_; (first | exact want0 rfl | exact want1 rfl rfl rfl rfl); rfl; rfl; intro w_ S_; simp only [putAt, List.set_cons_zero, List.set_cons_succ] at S_; clear S; have S := S_; clear S_) | (refine ev_own1 S ?_ rfl o3 rfl (by repeat (first | exact Spot.here _ _ | apply Spot.there)) (by exact rfl) ?_; (first | exact want0 rfl | exact want1 rfl rfl rfl rfl)) | ((with_reducible refine gate_dst (N := 13) rfl ?_); refine ev_alloc #[.int .i64 0, .int .u8 0, .string ⟨#[]⟩, .slice none 0 0] rfl S ?_ 13 rfl rfl z45 ?_; (first | exact want0 rfl | exact want1 rfl rfl rfl rfl); intro g13 w13 S_; clear S; have S := S_; clear S_) | ((with_reducible refine gate_dst (N := 15) rfl ?_); refine ev_alloc #[.int .i64 0, .int .u8 0, .string ⟨#[]⟩, .slice none 0 0] rfl S ?_ 15 rfl rfl z45 ?_; (first | exact want0 rfl | exact want1 rfl rfl rfl rfl); intro g15 w15 S_; clear S; have S := S_; clear S_) | (go_at_call 7; (with_reducible refine (awake_calls _).mono ?_); rintro z_ w_ ⟨rfl, hb_⟩; have S_ := Aside0.mk (S.out.keep hb_); clear hb_; clear S; have S := S_; clear S_) | (go_at_call 8; have c_ := newr_ev S; (with_reducible refine c_.mono ?_); clear c_; rintro z_ w_ ⟨g, rfl, S_⟩; clear S; have S := S_; clear S_) | (go_at_call 11; have c_ := pushn_ok nm S (by repeat (first | exact Spot.here _ _ | apply Spot.there)) hf hm0 hm1; (with_reducible refine c_.mono ?_); clear c_; rintro z_ w_ ⟨rfl, D2, S_⟩; clear S; have S := S_; clear S_; (try dsimp only at S)) | (go_at_call 11; have c_ := pushn_full nm S (by repeat (first | exact Spot.here _ _ | apply Spot.there)) hf hm0 hm1; (with_reducible refine c_.mono ?_); clear c_; rintro z_ w_ ⟨rfl, D2, S_⟩; clear S; have S := S_; clear S_; (try dsimp only at S)) | (go_at_call 12; have c_ := popr S (by repeat (first | exact Spot.here _ _ | apply Spot.there)) HPL.out; (with_reducible refine c_.mono ?_); clear c_; rintro z_ w_ ⟨A5, n5, c5, rfl, S_⟩; clear S; have S := S_; clear S_; (try dsimp only at S)) | (go_at_call 12; have c_ := popr0 S (by repeat (first | exact Spot.here _ _ | apply Spot.there)); (with_reducible refine c_.mono ?_); clear c_; rintro z_ w_ ⟨rfl, S_⟩; clear S; have S := S_; clear S_) | (go_at_call 13; have c_ := camer S (by repeat (first | exact Spot.here _ _ | apply Spot.there)); (with_reducible refine c_.mono ?_); clear c_; rintro z_ w_ ⟨rfl, rfl⟩))
          refine ⟨⟨i + 1, (L ++ [⟨i, 0, nm, []⟩]), D2, A7, n7, c7, (ws ++ [(i : Int)]), last, by omega, rfl, rfl, by simp, hl0, by omega, by simp; omega, ?_, ⟨?_⟩, ⟨HL.out.push HNM.out hl1 0 []⟩, ⟨by rw [Int.natCast_add]; exact S.out⟩⟩, ?_⟩
          · have h_ := wq_len S (by repeat (first | exact Spot.here _ _ | apply Spot.there))
            rw [h_, HW.out]; simp
          · rw [HW.out]; simp
          · simp [intOf]; omega
        · have hd5 : decide ((i : Int) ≥ (ps.length : Int)) = false := decide_eq_false hip
          have hd6 : decide (ps.length ≤ i) = false := decide_eq_false (by omega)
          obtain ⟨ad1, rfl⟩ := some_at HC1.out (by omega)
          have hip1 : (i : Int) < (ps.length : Int) := by omega
          obtain ⟨pb, hpb⟩ : ∃ pb, ps[i]? = some pb := ⟨_, List.getElem?_eq_getElem (by omega)⟩
          have K2 := Aside0.mk (bool_at HC1.out (Below.refl _ _) hpb)
          have hip2 : i < ps.length := by omega
          clear hpb hip hp hil
          cases pb with
          | false =>
            go_wp2_with (first | ((with_reducible refine gate_builtin (b := .append) (xs := #[.tmp 51, .tmp 53]) rfl ?_); at_builtin; refine Kd.Q_append (Kd.int .i64) (w0 := w) w.heap.size rfl (.tmp 51) (.tmp 53) 40 3 (.int .i64 0) 8 rfl Try.underlying40 info3 rfl (by decide) (by omega) (.slice A6 n6 c6) ws (i : Int) [.int .i64 i] (fun _ => True) (fun _ => False) rfl rfl rfl (fun _ h => h.elim) (fun _ _ => trivial) (wq_open (S.out.holds (WQ w.heap.size (.slice A6 n6 c6) ws) (Spot.mem (by repeat (first | exact Spot.here _ _ | apply Spot.there))))) S.out.below S.out.below.size (by have := HL0.out; omega) ?_; intro v7 w7 ho hb hg hat; obtain ⟨A7, n7, c7, hv7, S_⟩ := wq_app S (by repeat (first | exact Spot.here _ _ | apply Spot.there)) ho hg hat; subst hv7; clear ho hb hg hat; clear S; have S := S_; clear S_; (try dsimp only at S)) | (refine ev_load1 ?_ rfl o9 rfl (old_ S K1.out) ?_; (first | exact want0 rfl | exact want1 rfl rfl rfl rfl)) | (refine ev_load1 ?_ rfl o4 rfl (old_ S K2.out) ?_; (first | exact want0 rfl | exact want1 rfl rfl rfl rfl)) | (refine ev_own1 S ?_ rfl o9 rfl (by repeat (first | exact Spot.here _ _ | apply Spot.there)) (by exact rfl) ?_; (first | exact want0 rfl | exact want1 rfl rfl rfl rfl)) | (refine ev_own1 S ?_ rfl o4 rfl (by repeat (first | exact Spot.here _ _ | apply Spot.there)) (by exact rfl) ?_; (first | exact want0 rfl | exact want1 rfl rfl rfl rfl)) | ((with_reducible refine gate_dst (N := 11) rfl ?_); refine ev_alloc #[.int .i64 0, .int .u8 0, .string ⟨#[]⟩, .slice none 0 0] rfl S ?_ 11 rfl rfl z45 ?_; (first | exact want0 rfl | exact want1 rfl rfl rfl rfl); intro g11 w11 S_; clear S; have S := S_; clear S_) | (refine ev_puts S ?_ rfl rfl s45 rfl rfl (by repeat (first | exact Spot.here _ _ | apply Spot.there)) rfl ?_ ?_ ?_; (first | exact want0 rfl | exact want1 rfl rfl rfl rfl); rfl; rfl; intro w_ S_; simp only [putAt, List.set_cons_zero, List.set_cons_succ] at S_; clear S; have S := S_; clear S_) | (refine ev_own1 S ?_ rfl o3 rfl (by repeat (first | exact Spot.here _ _ | apply Spot.there)) (by exact rfl) ?_; (first | exact want0 rfl | exact want1 rfl rfl rfl rfl)) | ((with_reducible refine gate_dst (N := 13) rfl ?_); refine ev_alloc #[.int .i64 0, .int .u8 0, .string ⟨#[]⟩, .slice none 0 0] rfl S ?_ 13 rfl rfl z45 ?_; (first | exact want0 rfl | exact want1 rfl rfl rfl rfl); intro g13 w13 S_; clear S; have S := S_; clear S_) | ((with_reducible refine gate_dst (N := 15) rfl ?_); refine ev_alloc #[.int .i64 0, .int .u8 0, .string ⟨#[]⟩, .slice none 0 0] rfl S ?_ 15 rfl rfl z45 ?_; (first | exact want0 rfl | exact want1 rfl rfl rfl rfl); intro g15 w15 S_; clear S; have S := S_; clear S_) | (go_at_call 7; (with_reducible refine (awake_calls _).mono ?_); rintro z_ w_ ⟨rfl, hb_⟩; have S_ := Aside0.mk (S.out.keep hb_); clear hb_; clear S; have S := S_; clear S_) | (go_at_call 8; have c_ := newr_ev S; (with_reducible refine c_.mono ?_); clear c_; rintro z_ w_ ⟨g, rfl, S_⟩; clear S; have S := S_; clear S_) | (go_at_call 11; have c_ := pushn_ok nm S (by repeat (first | exact Spot.here _ _ | apply Spot.there)) hf hm0 hm1; (with_reducible refine c_.mono ?_); clear c_; rintro z_ w_ ⟨rfl, D2, S_⟩; clear S; have S := S_; clear S_; (try dsimp only at S)) | (go_at_call 11; have c_ := pushn_full nm S (by repeat (first | exact Spot.here _ _ | apply Spot.there)) hf hm0 hm1; (with_reducible refine c_.mono ?_); clear c_; rintro z_ w_ ⟨rfl, D2, S_⟩; clear S; have S := S_; clear S_; (try dsimp only at S)) | (go_at_call 12; have c_ := popr S (by repeat (first | exact Spot.here _ _ | apply Spot.there)) HPL.out; (with_reducible refine c_.mono ?_); clear c_; rintro z_ w_ ⟨A5, n5, c5, rfl, S_⟩; clear S; have S := S_; clear S_; (try dsimp only at S)) | (go_at_call 12; have c_ := popr0 S (by repeat (first | exact Spot.here _ _ | apply Spot.there)); (with_reducible refine c_.mono ?_); clear c_; rintro z_ w_ ⟨rfl, S_⟩; clear S; have S := S_; clear S_) | (go_at_call 13; have c_ := camer S (by repeat (first | exact Spot.here _ _ | apply Spot.there)); (with_reducible refine c_.mono ?_); clear c_; rintro z_ w_ ⟨rfl, rfl⟩))
            refine ⟨⟨i + 1, (L ++ [⟨i, 0, nm, []⟩]), D2, A7, n7, c7, (ws ++ [(i : Int)]), last, by omega, rfl, rfl, by simp, hl0, by omega, by simp; omega, ?_, ⟨?_⟩, ⟨HL.out.push HNM.out hl1 0 []⟩, ⟨by rw [Int.natCast_add]; exact S.out⟩⟩, ?_⟩
            · have h_ := wq_len S (by repeat (first | exact Spot.here _ _ | apply Spot.there))
              rw [h_, HW.out]; simp
            · rw [HW.out]; simp
            · simp [intOf]; omega
          | true =>
            obtain ⟨p, L', hPL⟩ : ∃ p L', (L ++ [⟨i, 0, nm, []⟩]) = p :: L' := by
              cases h : (L ++ [⟨i, 0, nm, []⟩]) with
              | nil => simp at h
              | cons p L' => exact ⟨p, L', rfl⟩
            have HWL := (HL.out.push HNM.out hl1 0 [])
            rw [hPL] at HWL
            obtain ⟨pnum, pk, pn, po⟩ := p
            obtain ⟨j, hj1, hj2, hj3⟩ := HWL.at_ _ List.mem_cons_self
            have hj1' : pnum = (j : Int) := hj1
            subst hj1'
            have HPL := Aside0.mk hPL
            have HWL2 := Aside0.mk HWL
            have hla : decide ((j : Int) ≤ last) = false := decide_eq_false (by have := HWL.above _ List.mem_cons_self; simp only at this; omega)
            have hjn : (j : Int) < (ns.length : Int) := by omega
            have hj0 : (0 : Int) ≤ (j : Int) := by omega
            have KN := Aside0.mk (str_at HC.out (Below.refl _ _) hj3)
            have HWS := Aside0.mk (show (ws ++ [(i : Int)]) = (j : Int) :: L'.map It.num by have h_ := congrArg (List.map It.num) HPL.out; rw [HW.out]; simpa using h_)
            clear hPL HWL hj1 hj3
            go_wp2_with (first | ((with_reducible refine gate_builtin (b := .append) (xs := #[.tmp 51, .tmp 53]) rfl ?_); at_builtin; refine Kd.Q_append (Kd.int .i64) (w0 := w) w.heap.size rfl (.tmp 51) (.tmp 53) 40 3 (.int .i64 0) 8 rfl Try.underlying40 info3 rfl (by decide) (by omega) (.slice A6 n6 c6) ws (i : Int) [.int .i64 i] (fun _ => True) (fun _ => False) rfl rfl rfl (fun _ h => h.elim) (fun _ _ => trivial) (wq_open (S.out.holds (WQ w.heap.size (.slice A6 n6 c6) ws) (Spot.mem (by repeat (first | exact Spot.here _ _ | apply Spot.there))))) S.out.below S.out.below.size (by have := HL0.out; omega) ?_; intro v7 w7 ho hb hg hat; obtain ⟨A7, n7, c7, hv7, S_⟩ := wq_app S (by repeat (first | exact Spot.here _ _ | apply Spot.there)) ho hg hat; subst hv7; clear ho hb hg hat; clear S; have S := S_; clear S_; (try dsimp only at S)) | (refine ev_load1 ?_ rfl o9 rfl (old_ S K1.out) ?_; (first | exact want0 rfl | exact want1 rfl rfl rfl rfl)) | (refine ev_load1 ?_ rfl o4 rfl (old_ S K2.out) ?_; (first | exact want0 rfl | exact want1 rfl rfl rfl rfl)) | (refine ev_own1 S ?_ rfl o9 rfl (by repeat (first | exact Spot.here _ _ | apply Spot.there)) (by exact rfl) ?_; (first | exact want0 rfl | exact want1 rfl rfl rfl rfl)) | (refine ev_own1 S ?_ rfl o4 rfl (by repeat (first | exact Spot.here _ _ | apply Spot.there)) (by exact rfl) ?_; (first | exact want0 rfl | exact want1 rfl rfl rfl rfl)) | ((with_reducible refine gate_dst (N := 11) rfl ?_); refine ev_alloc #[.int .i64 0, .int .u8 0, .string ⟨#[]⟩, .slice none 0 0] rfl S ?_ 11 rfl rfl z45 ?_; (first | exact want0 rfl | exact want1 rfl rfl rfl rfl); intro g11 w11 S_; clear S; have S := S_; clear S_) | (refine ev_puts S ?_ rfl rfl s45 rfl rfl (by repeat (first | exact Spot.here _ _ | apply Spot.there)) rfl ?_ ?_ ?_; (first | exact want0 rfl | exact want1 rfl rfl rfl rfl); rfl; rfl; intro w_ S_; simp only [putAt, List.set_cons_zero, List.set_cons_succ] at S_; clear S; have S := S_; clear S_) | (refine ev_own1 S ?_ rfl o3 rfl (by repeat (first | exact Spot.here _ _ | apply Spot.there)) (by exact rfl) ?_; (first | exact want0 rfl | exact want1 rfl rfl rfl rfl)) | ((with_reducible refine gate_dst (N := 13) rfl ?_); refine ev_alloc #[.int .i64 0, .int .u8 0, .string ⟨#[]⟩, .slice none 0 0] rfl S ?_ 13 rfl rfl z45 ?_; (first | exact want0 rfl | exact want1 rfl rfl rfl rfl); intro g13 w13 S_; clear S; have S := S_; clear S_) | ((with_reducible refine gate_dst (N := 15) rfl ?_); refine ev_alloc #[.int .i64 0, .int .u8 0, .string ⟨#[]⟩, .slice none 0 0] rfl S ?_ 15 rfl rfl z45 ?_; (first | exact want0 rfl | exact want1 rfl rfl rfl rfl); intro g15 w15 S_; clear S; have S := S_; clear S_) | (go_at_call 7; (with_reducible refine (awake_calls _).mono ?_); rintro z_ w_ ⟨rfl, hb_⟩; have S_ := Aside0.mk (S.out.keep hb_); clear hb_; clear S; have S := S_; clear S_) | (go_at_call 8; have c_ := newr_ev S; (with_reducible refine c_.mono ?_); clear c_; rintro z_ w_ ⟨g, rfl, S_⟩; clear S; have S := S_; clear S_) | (go_at_call 11; have c_ := pushn_ok nm S (by repeat (first | exact Spot.here _ _ | apply Spot.there)) hf hm0 hm1; (with_reducible refine c_.mono ?_); clear c_; rintro z_ w_ ⟨rfl, D2, S_⟩; clear S; have S := S_; clear S_; (try dsimp only at S)) | (go_at_call 11; have c_ := pushn_full nm S (by repeat (first | exact Spot.here _ _ | apply Spot.there)) hf hm0 hm1; (with_reducible refine c_.mono ?_); clear c_; rintro z_ w_ ⟨rfl, D2, S_⟩; clear S; have S := S_; clear S_; (try dsimp only at S)) | (go_at_call 12; have c_ := popr S (by repeat (first | exact Spot.here _ _ | apply Spot.there)) HPL.out; (with_reducible refine c_.mono ?_); clear c_; rintro z_ w_ ⟨A5, n5, c5, rfl, S_⟩; clear S; have S := S_; clear S_; (try dsimp only at S)) | (go_at_call 12; have c_ := popr0 S (by repeat (first | exact Spot.here _ _ | apply Spot.there)); (with_reducible refine c_.mono ?_); clear c_; rintro z_ w_ ⟨rfl, S_⟩; clear S; have S := S_; clear S_) | (go_at_call 13; have c_ := camer S (by repeat (first | exact Spot.here _ _ | apply Spot.there)); (with_reducible refine c_.mono ?_); clear c_; rintro z_ w_ ⟨rfl, rfl⟩))
            obtain ⟨g6, o6, hA6, hk6⟩ := wq_head S (by repeat (first | exact Spot.here _ _ | apply Spot.there)) HWS.out
            subst hA6
            have KH0 := Aside0.mk hk6
            have HN7 := Aside0.mk (wq_len S (by repeat (first | exact Spot.here _ _ | apply Spot.there)))
            have h70 : 0 < n7 := by have h_ := HN7.out; rw [HWS.out] at h_; simp at h_; omega
            clear hk6
            have S2 := Aside0.mk S.out.drew
            have KH := Aside0.mk (show _ = some _ from KH0.out)
            clear S
            refine start_ (n := 27) (S := fun w' => w'.cell? ⟨g11, 0, none⟩ = some (.int .i64 (j : Int)) ∧ w'.cell? ⟨g11, 1, none⟩ = some (.int .u8 pk) ∧ w'.cell? ⟨g11, 2, none⟩ = some (.string pn) ∧ w'.cell? ⟨g11, 3, none⟩ = some (.slice A5 n5 c5) ∧ w'.cell? ⟨g6, o6, none⟩ = some (.int .i64 (j : Int)) ∧ w'.cell? (ad.add j) = some (.string pn)) (ds := []) #[false, false, false, false, false, false, false, false, false, false, false, false, false, false, false, false, false, false, false, false, false, false, false, false, false, false, false] (by kernel_rfl) rfl rfl ⟨((own_cell (g := g11) S2 (by repeat (first | exact Spot.here _ _ | apply Spot.there)) 0).trans rfl), ((own_cell (g := g11) S2 (by repeat (first | exact Spot.here _ _ | apply Spot.there)) 1).trans rfl), ((own_cell (g := g11) S2 (by repeat (first | exact Spot.here _ _ | apply Spot.there)) 2).trans rfl), ((own_cell (g := g11) S2 (by repeat (first | exact Spot.here _ _ | apply Spot.there)) 3).trans rfl), KH.out, (old_ S2 KN.out)⟩ (fun hHeld => ?_)
            refine pure_ (i := 0) (N := some 71) (v := ?_) (a' := ?_) #[true, false, false, false, false, false, false, false, false, false, false, false, false, false, false, false, false, false, false, false, false, false, false, false, false, false, false] rfl rfl (by kernel_rfl) (fun _ _ _ h => h) (Or.inl ⟨by rfl, ?_⟩) ?_ ?_
            rotate_left
            · intro w'
              go_simp
              with_reducible rfl
            rotate_left
            · simp only [Act.put, List.setIfInBounds_toArray, List.set_cons_zero, List.set_cons_succ, i64_w, i32_w]
              rfl
            refine pure_ (i := 1) (N := some 72) (v := ?_) (a' := ?_) #[true, true, false, false, false, false, false, false, false, false, false, false, false, false, false, false, false, false, false, false, false, false, false, false, false, false, false] rfl rfl (by kernel_rfl) (fun _ _ _ h => h) (Or.inl ⟨by rfl, ?_⟩) ?_ ?_
            rotate_left
            · intro w'
              go_simp
              with_reducible rfl
            rotate_left
            · simp only [Act.put, List.setIfInBounds_toArray, List.set_cons_zero, List.set_cons_succ, i64_w, i32_w]
              rfl
            refine pure_ (i := 2) (N := some 73) (v := ?_) (a' := ?_) #[true, true, true, false, false, false, false, false, false, false, false, false, false, false, false, false, false, false, false, false, false, false, false, false, false, false, false] rfl rfl (by kernel_rfl) (fun _ _ _ h => h) (Or.inl ⟨by rfl, ?_⟩) ?_ ?_
            rotate_left
            · intro w'
              go_simp
              with_reducible rfl
            rotate_left
            · simp only [Act.put, List.setIfInBounds_toArray, List.set_cons_zero, List.set_cons_succ, i64_w, i32_w]
              rfl
            refine pure_ (i := 3) (N := some 74) (v := ?_) (a' := ?_) #[true, true, true, true, false, false, false, false, false, false, false, false, false, false, false, false, false, false, false, false, false, false, false, false, false, false, false] rfl rfl (by kernel_rfl) (fun _ _ _ h => h) (Or.inl ⟨by rfl, ?_⟩) ?_ ?_
            rotate_left
            · intro w'
              go_simp
              with_reducible rfl
            rotate_left
            · simp only [Act.put, List.setIfInBounds_toArray, List.set_cons_zero, List.set_cons_succ, i64_w, i32_w]
              rfl
            refine pure_ (i := 5) (N := some 76) (v := ?_) (a' := ?_) #[true, true, true, true, false, true, false, false, false, false, false, false, false, false, false, false, false, false, false, false, false, false, false, false, false, false, false] rfl rfl (by kernel_rfl) (fun _ _ _ h => h) (Or.inl ⟨by rfl, ?_⟩) ?_ ?_
            rotate_left
            · intro w'
              go_simp
              with_reducible rfl
            rotate_left
            · simp only [Act.put, List.setIfInBounds_toArray, List.set_cons_zero, List.set_cons_succ, i64_w, i32_w]
              rfl
            refine pure_ (i := 6) (N := some 77) (v := ?_) (a' := ?_) #[true, true, true, true, false, true, true, false, false, false, false, false, false, false, false, false, false, false, false, false, false, false, false, false, false, false, false] rfl rfl (by kernel_rfl) (fun _ _ _ h => h) (Or.inl ⟨by rfl, ?_⟩) ?_ ?_
            rotate_left
            · intro w'
              go_simp
              with_reducible rfl
            rotate_left
            · simp only [Act.put, List.setIfInBounds_toArray, List.set_cons_zero, List.set_cons_succ, i64_w, i32_w]
              rfl
            refine take_ (i := 4) (N := some 75) (v := ?_) (a' := ?_) #[true, true, true, true, true, true, true, false, false, false, false, false, false, false, false, false, false, false, false, false, false, false, false, false, false, false, false] rfl rfl (by kernel_rfl) (fun _ _ _ h => h) (Or.inl ⟨by rfl, ?_⟩) hHeld ?_ ?_
            rotate_left
            · rintro w' ⟨s0, s1, s2, s3, s4, s5⟩
              go_simp
              with_reducible rfl
            rotate_left
            · simp only [Act.put, List.setIfInBounds_toArray, List.set_cons_zero, List.set_cons_succ, i64_w, i32_w]
              rfl
            refine take_ (i := 7) (N := some 78) (v := ?_) (a' := ?_) #[true, true, true, true, true, true, true, true, false, false, false, false, false, false, false, false, false, false, false, false, false, false, false, false, false, false, false] rfl rfl (by kernel_rfl) (fun _ _ _ h => h) (Or.inl ⟨by rfl, ?_⟩) hHeld ?_ ?_
            rotate_left
            · rintro w' ⟨s0, s1, s2, s3, s4, s5⟩
              go_simp
              with_reducible rfl
            rotate_left
            · simp only [Act.put, List.setIfInBounds_toArray, List.set_cons_zero, List.set_cons_succ, i64_w, i32_w]
              rfl
            refine pure_ (i := 8) (N := some 79) (v := ?_) (a' := ?_) #[true, true, true, true, true, true, true, true, true, false, false, false, false, false, false, false, false, false, false, false, false, false, false, false, false, false, false] rfl rfl (by kernel_rfl) (fun _ _ _ h => h) (Or.inl ⟨by rfl, ?_⟩) ?_ ?_
            rotate_left
            · intro w'
              go_simp
              with_reducible rfl
            rotate_left
            · simp only [Act.put, List.setIfInBounds_toArray, List.set_cons_zero, List.set_cons_succ, i64_w, i32_w]
              rfl
            refine pure_ (i := 9) (N := some 80) (v := ?_) (a' := ?_) #[true, true, true, true, true, true, true, true, true, true, false, false, false, false, false, false, false, false, false, false, false, false, false, false, false, false, false] rfl rfl (by kernel_rfl) (fun _ _ _ h => h) (Or.inl ⟨by rfl, ?_⟩) ?_ ?_
            rotate_left
            · intro w'
              go_simp
              with_reducible rfl
            rotate_left
            · simp only [Act.put, List.setIfInBounds_toArray, List.set_cons_zero, List.set_cons_succ, i64_w, i32_w]
              rfl
            refine pure_ (i := 10) (N := some 81) (v := ?_) (a' := ?_) #[true, true, true, true, true, true, true, true, true, true, true, false, false, false, false, false, false, false, false, false, false, false, false, false, false, false, false] rfl rfl (by kernel_rfl) (fun _ _ _ h => h) (Or.inl ⟨by rfl, ?_⟩) ?_ ?_
            rotate_left
            · intro w'
              go_simp
              with_reducible rfl
            rotate_left
            · simp only [Act.put, List.setIfInBounds_toArray, List.set_cons_zero, List.set_cons_succ, i64_w, i32_w]
              rfl
            refine pure_ (i := 11) (N := some 82) (v := ?_) (a' := ?_) #[true, true, true, true, true, true, true, true, true, true, true, true, false, false, false, false, false, false, false, false, false, false, false, false, false, false, false] rfl rfl (by kernel_rfl) (fun _ _ _ h => h) (Or.inl ⟨by rfl, ?_⟩) ?_ ?_
            rotate_left
            · intro w'
              go_simp
              with_reducible rfl
            rotate_left
            · simp only [Act.put, List.setIfInBounds_toArray, List.set_cons_zero, List.set_cons_succ, i64_w, i32_w]
              rfl
            refine pure_ (i := 13) (N := some 84) (v := ?_) (a' := ?_) #[true, true, true, true, true, true, true, true, true, true, true, true, false, true, false, false, false, false, false, false, false, false, false, false, false, false, false] rfl rfl (by kernel_rfl) (fun _ _ _ h => h) (Or.inl ⟨by rfl, ?_⟩) ?_ ?_
            rotate_left
            · intro w'
              go_simp
              with_reducible rfl
            rotate_left
            · simp only [Act.put, List.setIfInBounds_toArray, List.set_cons_zero, List.set_cons_succ, i64_w, i32_w]
              rfl
            refine take_ (i := 12) (N := some 83) (v := ?_) (a' := ?_) #[true, true, true, true, true, true, true, true, true, true, true, true, true, true, false, false, false, false, false, false, false, false, false, false, false, false, false] rfl rfl (by kernel_rfl) (fun _ _ _ h => h) (Or.inl ⟨by rfl, ?_⟩) hHeld ?_ ?_
            rotate_left
            · rintro w' ⟨s0, s1, s2, s3, s4, s5⟩
              go_simp
              with_reducible rfl
            rotate_left
            · simp only [Act.put, List.setIfInBounds_toArray, List.set_cons_zero, List.set_cons_succ, i64_w, i32_w]
              rfl
            refine pure_ (i := 14) (N := some 85) (v := ?_) (a' := ?_) #[true, true, true, true, true, true, true, true, true, true, true, true, true, true, true, false, false, false, false, false, false, false, false, false, false, false, false] rfl rfl (by kernel_rfl) (fun _ _ _ h => h) (Or.inl ⟨by rfl, ?_⟩) ?_ ?_
            rotate_left
            · intro w'
              go_simp
              with_reducible rfl
            rotate_left
            · simp only [Act.put, List.setIfInBounds_toArray, List.set_cons_zero, List.set_cons_succ, i64_w, i32_w]
              rfl
            refine pure_ (i := 15) (N := some 86) (v := ?_) (a' := ?_) #[true, true, true, true, true, true, true, true, true, true, true, true, true, true, true, true, false, false, false, false, false, false, false, false, false, false, false] rfl rfl (by kernel_rfl) (fun _ _ _ h => h) (Or.inl ⟨by rfl, ?_⟩) ?_ ?_
            rotate_left
            · intro w'
              go_simp
              with_reducible rfl
            rotate_left
            · simp only [Act.put, List.setIfInBounds_toArray, List.set_cons_zero, List.set_cons_succ, i64_w, i32_w]
              rfl
            refine pure_ (i := 16) (N := some 87) (v := ?_) (a' := ?_) #[true, true, true, true, true, true, true, true, true, true, true, true, true, true, true, true, true, false, false, false, false, false, false, false, false, false, false] rfl rfl (by kernel_rfl) (fun _ _ _ h => h) (Or.inl ⟨by rfl, ?_⟩) ?_ ?_
            rotate_left
            · intro w'
              go_simp
              with_reducible rfl
            rotate_left
            · simp only [Act.put, List.setIfInBounds_toArray, List.set_cons_zero, List.set_cons_succ, i64_w, i32_w]
              rfl
            refine pure_ (i := 17) (N := some 88) (v := ?_) (a' := ?_) #[true, true, true, true, true, true, true, true, true, true, true, true, true, true, true, true, true, true, false, false, false, false, false, false, false, false, false] rfl rfl (by kernel_rfl) (fun _ _ _ h => h) (Or.inl ⟨by rfl, ?_⟩) ?_ ?_
            rotate_left
            · intro w'
              go_simp
              with_reducible rfl
            rotate_left
            · simp only [Act.put, List.setIfInBounds_toArray, List.set_cons_zero, List.set_cons_succ, i64_w, i32_w]
              rfl
            refine pure_ (i := 18) (N := some 89) (v := ?_) (a' := ?_) #[true, true, true, true, true, true, true, true, true, true, true, true, true, true, true, true, true, true, true, false, false, false, false, false, false, false, false] rfl rfl (by kernel_rfl) (fun _ _ _ h => h) (Or.inl ⟨by rfl, ?_⟩) ?_ ?_
            rotate_left
            · intro w'
              go_simp
              with_reducible rfl
            rotate_left
            · simp only [Act.put, List.setIfInBounds_toArray, List.set_cons_zero, List.set_cons_succ, i64_w, i32_w]
              rfl
            refine pure_ (i := 20) (N := some 91) (v := ?_) (a' := ?_) #[true, true, true, true, true, true, true, true, true, true, true, true, true, true, true, true, true, true, true, false, true, false, false, false, false, false, false] rfl rfl (by kernel_rfl) (fun _ _ _ h => h) (Or.inl ⟨by rfl, ?_⟩) ?_ ?_
            rotate_left
            · intro w'
              go_simp
              with_reducible rfl
            rotate_left
            · simp only [Act.put, List.setIfInBounds_toArray, List.set_cons_zero, List.set_cons_succ, i64_w, i32_w]
              rfl
            refine pure_ (i := 21) (N := some 92) (v := ?_) (a' := ?_) #[true, true, true, true, true, true, true, true, true, true, true, true, true, true, true, true, true, true, true, false, true, true, false, false, false, false, false] rfl rfl (by kernel_rfl) (fun _ _ _ h => h) (Or.inl ⟨by rfl, ?_⟩) ?_ ?_
            rotate_left
            · intro w'
              go_simp
              with_reducible rfl
            rotate_left
            · simp only [Act.put, List.setIfInBounds_toArray, List.set_cons_zero, List.set_cons_succ, i64_w, i32_w]
              rfl
            refine take_ (i := 19) (N := some 90) (v := ?_) (a' := ?_) #[true, true, true, true, true, true, true, true, true, true, true, true, true, true, true, true, true, true, true, true, true, true, false, false, false, false, false] rfl rfl (by kernel_rfl) (fun _ _ _ h => h) (Or.inl ⟨by rfl, ?_⟩) hHeld ?_ ?_
            rotate_left
            · rintro w' ⟨s0, s1, s2, s3, s4, s5⟩
              go_simp
              with_reducible rfl
            rotate_left
            · simp only [Act.put, List.setIfInBounds_toArray, List.set_cons_zero, List.set_cons_succ, i64_w, i32_w]
              rfl
            refine take_ (i := 22) (N := some 93) (v := ?_) (a' := ?_) #[true, true, true, true, true, true, true, true, true, true, true, true, true, true, true, true, true, true, true, true, true, true, true, false, false, false, false] rfl rfl (by kernel_rfl) (fun _ _ _ h => h) (Or.inl ⟨by rfl, ?_⟩) hHeld ?_ ?_
            rotate_left
            · rintro w' ⟨s0, s1, s2, s3, s4, s5⟩
              go_simp
              with_reducible rfl
            rotate_left
            · simp only [Act.put, List.setIfInBounds_toArray, List.set_cons_zero, List.set_cons_succ, i64_w, i32_w]
              rfl
            refine pure_ (i := 23) (N := some 94) (v := ?_) (a' := ?_) #[true, true, true, true, true, true, true, true, true, true, true, true, true, true, true, true, true, true, true, true, true, true, true, true, false, false, false] rfl rfl (by kernel_rfl) (fun _ _ _ h => h) (Or.inl ⟨by rfl, ?_⟩) ?_ ?_
            rotate_left
            · intro w'
              go_simp
              with_reducible rfl
            rotate_left
            · simp only [Act.put, List.setIfInBounds_toArray, List.set_cons_zero, List.set_cons_succ, i64_w, i32_w]
              rfl
            refine take_ (i := 24) (N := some 95) (v := ?_) (a' := ?_) #[true, true, true, true, true, true, true, true, true, true, true, true, true, true, true, true, true, true, true, true, true, true, true, true, true, false, false] rfl rfl (by kernel_rfl) (fun _ _ _ h => h) (Or.inl ⟨by rfl, ?_⟩) hHeld ?_ ?_
            rotate_left
            · rintro w' ⟨s0, s1, s2, s3, s4, s5⟩
              go_simp
              with_reducible rfl
            rotate_left
            · simp only [Act.put, List.setIfInBounds_toArray, List.set_cons_zero, List.set_cons_succ, i64_w, i32_w]
              rfl
            refine pure_ (i := 25) (N := some 96) (v := ?_) (a' := ?_) #[true, true, true, true, true, true, true, true, true, true, true, true, true, true, true, true, true, true, true, true, true, true, true, true, true, true, false] rfl rfl (by kernel_rfl) (fun _ _ _ h => h) (Or.inl ⟨by rfl, ?_⟩) ?_ ?_
            rotate_left
            · intro w'
              go_simp
              with_reducible rfl
            rotate_left
            · simp only [Act.put, List.setIfInBounds_toArray, List.set_cons_zero, List.set_cons_succ, i64_w, i32_w]
              rfl
            refine pure_ (i := 26) (N := some 97) (v := ?_) (a' := ?_) #[true, true, true, true, true, true, true, true, true, true, true, true, true, true, true, true, true, true, true, true, true, true, true, true, true, true, true] rfl rfl (by kernel_rfl) (fun _ _ _ h => h) (Or.inl ⟨by rfl, ?_⟩) ?_ ?_
            rotate_left
            · intro w'
              go_simp
              with_reducible rfl
            rotate_left
            · simp only [Act.put, List.setIfInBounds_toArray, List.set_cons_zero, List.set_cons_succ, i64_w, i32_w]
              rfl
            refine done_ (by kernel_rfl) ?_
            
            have S := S2
            clear S2
            go_wp2
            obtain ⟨A8, n8, c8, hcut, hn8, S8⟩ := wq_cut S (by repeat (first | exact Spot.here _ _ | apply Spot.there)) HWS.out
            (try dsimp only at S8)
            have HN8 := Aside0.mk hn8
            clear S hn8
            have S := S8
            clear S8
            have S2 := Aside0.mk S.out.drew
            clear S
            refine start_ (n := 6) (S := fun w' => w'.cell? ⟨g11, 0, none⟩ = some (.int .i64 (j : Int)) ∧ w'.cell? ⟨g11, 1, none⟩ = some (.int .u8 pk) ∧ w'.cell? ⟨g11, 2, none⟩ = some (.string pn) ∧ w'.cell? ⟨g11, 3, none⟩ = some (.slice A5 n5 c5)) (ds := []) #[false, false, false, false, false, false] (by kernel_rfl) rfl rfl ⟨((own_cell (g := g11) S2 (by repeat (first | exact Spot.here _ _ | apply Spot.there)) 0).trans rfl), ((own_cell (g := g11) S2 (by repeat (first | exact Spot.here _ _ | apply Spot.there)) 1).trans rfl), ((own_cell (g := g11) S2 (by repeat (first | exact Spot.here _ _ | apply Spot.there)) 2).trans rfl), ((own_cell (g := g11) S2 (by repeat (first | exact Spot.here _ _ | apply Spot.there)) 3).trans rfl)⟩ (fun hHeld => ?_)
            refine pure_ (i := 0) (N := some 98) (v := ?_) (a' := ?_) #[true, false, false, false, false, false] rfl rfl (by kernel_rfl) (fun _ _ _ h => h) (Or.inl ⟨by rfl, ?_⟩) ?_ ?_
            rotate_left
            · intro w'
              go_simp
              with_reducible rfl
            rotate_left
            · simp only [Act.put, List.setIfInBounds_toArray, List.set_cons_zero, List.set_cons_succ, i64_w, i32_w]
              rfl
            refine pure_ (i := 2) (N := some 100) (v := ?_) (a' := ?_) #[true, false, true, false, false, false] rfl rfl (by kernel_rfl) (fun _ _ _ h => h) (Or.inl ⟨by rfl, ?_⟩) ?_ ?_
            rotate_left
            · intro w'
              go_simp
              with_reducible rfl
            rotate_left
            · simp only [Act.put, List.setIfInBounds_toArray, List.set_cons_zero, List.set_cons_succ, i64_w, i32_w]
              rfl
            refine pure_ (i := 3) (N := some 101) (v := ?_) (a' := ?_) #[true, false, true, true, false, false] rfl rfl (by kernel_rfl) (fun _ _ _ h => h) (Or.inl ⟨by rfl, ?_⟩) ?_ ?_
            rotate_left
            · intro w'
              go_simp
              with_reducible rfl
            rotate_left
            · simp only [Act.put, List.setIfInBounds_toArray, List.set_cons_zero, List.set_cons_succ, i64_w, i32_w]
              rfl
            refine take_ (i := 1) (N := some 99) (v := ?_) (a' := ?_) #[true, true, true, true, false, false] rfl rfl (by kernel_rfl) (fun _ _ _ h => h) (Or.inl ⟨by rfl, ?_⟩) hHeld ?_ ?_
            rotate_left
            · rintro w' ⟨s0, s1, s2, s3⟩
              go_simp
              with_reducible rfl
            rotate_left
            · simp only [Act.put, List.setIfInBounds_toArray, List.set_cons_zero, List.set_cons_succ, i64_w, i32_w]
              rfl
            refine pure_ (i := 4) (N := some 7) (v := ?_) (a' := ?_) #[true, true, true, true, true, false] rfl rfl (by kernel_rfl) (fun _ _ _ h => h) (Or.inl ⟨by rfl, ?_⟩) ?_ ?_
            rotate_left
            · intro w'
              go_simp
              with_reducible rfl
            rotate_left
            · simp only [Act.put, List.setIfInBounds_toArray, List.set_cons_zero, List.set_cons_succ, i64_w, i32_w]
              rfl
            refine pure_ (i := 5) (N := some 6) (v := ?_) (a' := ?_) #[true, true, true, true, true, true] rfl rfl (by kernel_rfl) (fun _ _ _ h => h) (Or.inl ⟨by rfl, ?_⟩) ?_ ?_
            rotate_left
            · intro w'
              go_simp
              with_reducible rfl
            rotate_left
            · simp only [Act.put, List.setIfInBounds_toArray, List.set_cons_zero, List.set_cons_succ, i64_w, i32_w]
              rfl
            refine done_ (by kernel_rfl) ?_
            
            have S := S2
            clear S2
            go_wp2
            have hlen8 := congrArg List.length HPL.out
            refine ⟨⟨i + 1, L', D2, A8, n8, c8, L'.map It.num, j, by omega, rfl, rfl, by simp, by omega, by omega, ?_, ?_, ⟨rfl⟩, ⟨HWL2.out.pop⟩, ⟨by rw [Int.natCast_add]; exact S.out.drop (List.sublist_cons_self _ _)⟩⟩, ?_⟩
            · simp at hlen8; omega
            · rw [HN8.out]; simp
            · simp [intOf]; omega
      · have hd4 : decide ((n6 : Int) < 8) = false := decide_eq_false (by have := HN6.out; omega)
        by_cases hip : (ps.length : Int) ≤ (i : Int)
        · have hd5 : decide ((i : Int) ≥ (ps.length : Int)) = true := decide_eq_true hip
          go_wp2_with (first | ((with_reducible refine gate_builtin (b := .append) (xs := #[.tmp 51, .tmp 53]) rfl ?_); at_builtin; refine Kd.Q_append (Kd.int .i64) (w0 := w) w.heap.size rfl (.tmp 51) (.tmp 53) 40 3 (.int .i64 0) 8 rfl Try.underlying40 info3 rfl (by decide) (by omega) (.slice A6 n6 c6) ws (i : Int) [.int .i64 i] (fun _ => True) (fun _ => False) rfl rfl rfl (fun _ h => h.elim) (fun _ _ => trivial) (wq_open (S.out.holds (WQ w.heap.size (.slice A6 n6 c6) ws) (Spot.mem (by repeat (first | exact Spot.here _ _ | apply Spot.there))))) S.out.below S.out.below.size (by have := HL0.out; omega) ?_; intro v7 w7 ho hb hg hat; obtain ⟨A7, n7, c7, hv7, S_⟩ := wq_app S (by repeat (first | exact Spot.here _ _ | apply Spot.there)) ho hg hat; subst hv7; clear ho hb hg hat; clear S; have S := S_; clear S_; (try dsimp only at S)) | (refine ev_load1 ?_ rfl o9 rfl (old_ S K1.out) ?_; (first | exact want0 rfl | exact want1 rfl rfl rfl rfl)) | (refine ev_load1 ?_ rfl o4 rfl (old_ S K2.out) ?_; (first | exact want0 rfl | exact want1 rfl rfl rfl rfl)) | (refine ev_own1 S ?_ rfl o9 rfl (by repeat (first | exact Spot.here _ _ | apply Spot.there)) (by exact rfl) ?_; (first | exact want0 rfl | exact want1 rfl rfl rfl rfl)) | (refine ev_own1 S ?_ rfl o4 rfl (by repeat (first | exact Spot.here _ _ | apply Spot.there)) (by exact rfl) ?_; (first | exact want0 rfl | exact want1 rfl rfl rfl rfl)) | ((with_reducible refine gate_dst (N := 11) rfl ?_); refine ev_alloc #[.int .i64 0, .int .u8 0, .string ⟨#[]⟩, .slice none 0 0] rfl S ?_ 11 rfl rfl z45 ?_; (first | exact want0 rfl | exact want1 rfl rfl rfl rfl); intro g11 w11 S_; clear S; have S := S_; clear S_) | (refine ev_puts S ?_ rfl rfl s45 rfl rfl (by repeat (first | exact Spot.here _ _ | apply Spot.there)) rfl ?_ ?_ ?_; (first | exact want0 rfl | exact want1 rfl rfl rfl rfl); rfl; rfl; intro w_ S_; simp only [putAt, List.set_cons_zero, List.set_cons_succ] at S_; clear S; have S := S_; clear S_) | (refine ev_own1 S ?_ rfl o3 rfl (by repeat (first | exact Spot.here _ _ | apply Spot.there)) (by exact rfl) ?_; (first | exact want0 rfl | exact want1 rfl rfl rfl rfl)) | ((with_reducible refine gate_dst (N := 13) rfl ?_); refine ev_alloc #[.int .i64 0, .int .u8 0, .string ⟨#[]⟩, .slice none 0 0] rfl S ?_ 13 rfl rfl z45 ?_; (first | exact want0 rfl | exact want1 rfl rfl rfl rfl); intro g13 w13 S_; clear S; have S := S_; clear S_) | ((with_reducible refine gate_dst (N := 15) rfl ?_); refine ev_alloc #[.int .i64 0, .int .u8 0, .string ⟨#[]⟩, .slice none 0 0] rfl S ?_ 15 rfl rfl z45 ?_; (first | exact want0 rfl | exact want1 rfl rfl rfl rfl); intro g15 w15 S_; clear S; have S := S_; clear S_) | (go_at_call 7; (with_reducible refine (awake_calls _).mono ?_); rintro z_ w_ ⟨rfl, hb_⟩; have S_ := Aside0.mk (S.out.keep hb_); clear hb_; clear S; have S := S_; clear S_) | (go_at_call 8; have c_ := newr_ev S; (with_reducible refine c_.mono ?_); clear c_; rintro z_ w_ ⟨g, rfl, S_⟩; clear S; have S := S_; clear S_) | (go_at_call 11; have c_ := pushn_ok nm S (by repeat (first | exact Spot.here _ _ | apply Spot.there)) hf hm0 hm1; (with_reducible refine c_.mono ?_); clear c_; rintro z_ w_ ⟨rfl, D2, S_⟩; clear S; have S := S_; clear S_; (try dsimp only at S)) | (go_at_call 11; have c_ := pushn_full nm S (by repeat (first | exact Spot.here _ _ | apply Spot.there)) hf hm0 hm1; (with_reducible refine c_.mono ?_); clear c_; rintro z_ w_ ⟨rfl, D2, S_⟩; clear S; have S := S_; clear S_; (try dsimp only at S)) | (go_at_call 12; have c_ := popr S (by repeat (first | exact Spot.here _ _ | apply Spot.there)) HPL.out; (with_reducible refine c_.mono ?_); clear c_; rintro z_ w_ ⟨A5, n5, c5, rfl, S_⟩; clear S; have S := S_; clear S_; (try dsimp only at S)) | (go_at_call 12; have c_ := popr0 S (by repeat (first | exact Spot.here _ _ | apply Spot.there)); (with_reducible refine c_.mono ?_); clear c_; rintro z_ w_ ⟨rfl, S_⟩; clear S; have S := S_; clear S_) | (go_at_call 13; have c_ := camer S (by repeat (first | exact Spot.here _ _ | apply Spot.there)); (with_reducible refine c_.mono ?_); clear c_; rintro z_ w_ ⟨rfl, rfl⟩))
          refine ⟨⟨i + 1, L, D2, A6, n6, c6, ws, last, by omega, rfl, rfl, by simp, hl0, by omega, h8, ?_, ⟨?_⟩, ⟨HL.out.full⟩, ⟨by rw [Int.natCast_add]; exact S.out⟩⟩, ?_⟩
          · exact HN6.out
          · exact HW.out
          · simp [intOf]; omega
        · have hd5 : decide ((i : Int) ≥ (ps.length : Int)) = false := decide_eq_false hip
          have hd6 : decide (ps.length ≤ i) = false := decide_eq_false (by omega)
          obtain ⟨ad1, rfl⟩ := some_at HC1.out (by omega)
          have hip1 : (i : Int) < (ps.length : Int) := by omega
          obtain ⟨pb, hpb⟩ : ∃ pb, ps[i]? = some pb := ⟨_, List.getElem?_eq_getElem (by omega)⟩
          have K2 := Aside0.mk (bool_at HC1.out (Below.refl _ _) hpb)
          have hip2 : i < ps.length := by omega
          clear hpb hip hp hil
          cases pb with
          | false =>
            go_wp2_with (first | ((with_reducible refine gate_builtin (b := .append) (xs := #[.tmp 51, .tmp 53]) rfl ?_); at_builtin; refine Kd.Q_append (Kd.int .i64) (w0 := w) w.heap.size rfl (.tmp 51) (.tmp 53) 40 3 (.int .i64 0) 8 rfl Try.underlying40 info3 rfl (by decide) (by omega) (.slice A6 n6 c6) ws (i : Int) [.int .i64 i] (fun _ => True) (fun _ => False) rfl rfl rfl (fun _ h => h.elim) (fun _ _ => trivial) (wq_open (S.out.holds (WQ w.heap.size (.slice A6 n6 c6) ws) (Spot.mem (by repeat (first | exact Spot.here _ _ | apply Spot.there))))) S.out.below S.out.below.size (by have := HL0.out; omega) ?_; intro v7 w7 ho hb hg hat; obtain ⟨A7, n7, c7, hv7, S_⟩ := wq_app S (by repeat (first | exact Spot.here _ _ | apply Spot.there)) ho hg hat; subst hv7; clear ho hb hg hat; clear S; have S := S_; clear S_; (try dsimp only at S)) | (refine ev_load1 ?_ rfl o9 rfl (old_ S K1.out) ?_; (first | exact want0 rfl | exact want1 rfl rfl rfl rfl)) | (refine ev_load1 ?_ rfl o4 rfl (old_ S K2.out) ?_; (first | exact want0 rfl | exact want1 rfl rfl rfl rfl)) | (refine ev_own1 S ?_ rfl o9 rfl (by repeat (first | exact Spot.here _ _ | apply Spot.there)) (by exact rfl) ?_; (first | exact want0 rfl | exact want1 rfl rfl rfl rfl)) | (refine ev_own1 S ?_ rfl o4 rfl (by repeat (first | exact Spot.here _ _ | apply Spot.there)) (by exact rfl) ?_; (first | exact want0 rfl | exact want1 rfl rfl rfl rfl)) | ((with_reducible refine gate_dst (N := 11) rfl ?_); refine ev_alloc #[.int .i64 0, .int .u8 0, .string ⟨#[]⟩, .slice none 0 0] rfl S ?_ 11 rfl rfl z45 ?_; (first | exact want0 rfl | exact want1 rfl rfl rfl rfl); intro g11 w11 S_; clear S; have S := S_; clear S_) | (refine ev_puts S ?_ rfl rfl s45 rfl rfl (by repeat (first | exact Spot.here _ _ | apply Spot.there)) rfl ?_ ?_ ?_; (first | exact want0 rfl | exact want1 rfl rfl rfl rfl); rfl; rfl; intro w_ S_; simp only [putAt, List.set_cons_zero, List.set_cons_succ] at S_; clear S; have S := S_; clear S_) | (refine ev_own1 S ?_ rfl o3 rfl (by repeat (first | exact Spot.here _ _ | apply Spot.there)) (by exact rfl) ?_; (first | exact want0 rfl | exact want1 rfl rfl rfl rfl)) | ((with_reducible refine gate_dst (N := 13) rfl ?_); refine ev_alloc #[.int .i64 0, .int .u8 0, .string ⟨#[]⟩, .slice none 0 0] rfl S ?_ 13 rfl rfl z45 ?_; (first | exact want0 rfl | exact want1 rfl rfl rfl rfl); intro g13 w13 S_; clear S; have S := S_; clear S_) | ((with_reducible refine gate_dst (N := 15) rfl ?_); refine ev_alloc #[.int .i64 0, .int .u8 0, .string ⟨#[]⟩, .slice none 0 0] rfl S ?_ 15 rfl rfl z45 ?_; (first | exact want0 rfl | exact want1 rfl rfl rfl rfl); intro g15 w15 S_; clear S; have S := S_; clear S_) | (go_at_call 7; (with_reducible refine (awake_calls _).mono ?_); rintro z_ w_ ⟨rfl, hb_⟩; have S_ := Aside0.mk (S.out.keep hb_); clear hb_; clear S; have S := S_; clear S_) | (go_at_call 8; have c_ := newr_ev S; (with_reducible refine c_.mono ?_); clear c_; rintro z_ w_ ⟨g, rfl, S_⟩; clear S; have S := S_; clear S_) | (go_at_call 11; have c_ := pushn_ok nm S (by repeat (first | exact Spot.here _ _ | apply Spot.there)) hf hm0 hm1; (with_reducible refine c_.mono ?_); clear c_; rintro z_ w_ ⟨rfl, D2, S_⟩; clear S; have S := S_; clear S_; (try dsimp only at S)) | (go_at_call 11; have c_ := pushn_full nm S (by repeat (first | exact Spot.here _ _ | apply Spot.there)) hf hm0 hm1; (with_reducible refine c_.mono ?_); clear c_; rintro z_ w_ ⟨rfl, D2, S_⟩; clear S; have S := S_; clear S_; (try dsimp only at S)) | (go_at_call 12; have c_ := popr S (by repeat (first | exact Spot.here _ _ | apply Spot.there)) HPL.out; (with_reducible refine c_.mono ?_); clear c_; rintro z_ w_ ⟨A5, n5, c5, rfl, S_⟩; clear S; have S := S_; clear S_; (try dsimp only at S)) | (go_at_call 12; have c_ := popr0 S (by repeat (first | exact Spot.here _ _ | apply Spot.there)); (with_reducible refine c_.mono ?_); clear c_; rintro z_ w_ ⟨rfl, S_⟩; clear S; have S := S_; clear S_) | (go_at_call 13; have c_ := camer S (by repeat (first | exact Spot.here _ _ | apply Spot.there)); (with_reducible refine c_.mono ?_); clear c_; rintro z_ w_ ⟨rfl, rfl⟩))
            refine ⟨⟨i + 1, L, D2, A6, n6, c6, ws, last, by omega, rfl, rfl, by simp, hl0, by omega, h8, ?_, ⟨?_⟩, ⟨HL.out.full⟩, ⟨by rw [Int.natCast_add]; exact S.out⟩⟩, ?_⟩
            · exact HN6.out
            · exact HW.out
            · simp [intOf]; omega
          | true =>
            obtain ⟨p, L', hPL⟩ : ∃ p L', L = p :: L' := by
              cases h : L with
              | nil => rw [h] at hf; simp at hf
              | cons p L' => exact ⟨p, L', rfl⟩
            have HWL := (HL.out.full)
            rw [hPL] at HWL
            obtain ⟨pnum, pk, pn, po⟩ := p
            obtain ⟨j, hj1, hj2, hj3⟩ := HWL.at_ _ List.mem_cons_self
            have hj1' : pnum = (j : Int) := hj1
            subst hj1'
            have HPL := Aside0.mk hPL
            have HWL2 := Aside0.mk HWL
            have hla : decide ((j : Int) ≤ last) = false := decide_eq_false (by have := HWL.above _ List.mem_cons_self; simp only at this; omega)
            have hjn : (j : Int) < (ns.length : Int) := by omega
            have hj0 : (0 : Int) ≤ (j : Int) := by omega
            have KN := Aside0.mk (str_at HC.out (Below.refl _ _) hj3)
            have HWS := Aside0.mk (show ws = (j : Int) :: L'.map It.num by have h_ := congrArg (List.map It.num) HPL.out; rw [HW.out]; simpa using h_)
            clear hPL HWL hj1 hj3
            go_wp2_with (first | ((with_reducible refine gate_builtin (b := .append) (xs := #[.tmp 51, .tmp 53]) rfl ?_); at_builtin; refine Kd.Q_append (Kd.int .i64) (w0 := w) w.heap.size rfl (.tmp 51) (.tmp 53) 40 3 (.int .i64 0) 8 rfl Try.underlying40 info3 rfl (by decide) (by omega) (.slice A6 n6 c6) ws (i : Int) [.int .i64 i] (fun _ => True) (fun _ => False) rfl rfl rfl (fun _ h => h.elim) (fun _ _ => trivial) (wq_open (S.out.holds (WQ w.heap.size (.slice A6 n6 c6) ws) (Spot.mem (by repeat (first | exact Spot.here _ _ | apply Spot.there))))) S.out.below S.out.below.size (by have := HL0.out; omega) ?_; intro v7 w7 ho hb hg hat; obtain ⟨A7, n7, c7, hv7, S_⟩ := wq_app S (by repeat (first | exact Spot.here _ _ | apply Spot.there)) ho hg hat; subst hv7; clear ho hb hg hat; clear S; have S := S_; clear S_; (try dsimp only at S)) | (refine ev_load1 ?_ rfl o9 rfl (old_ S K1.out) ?_; (first | exact want0 rfl | exact want1 rfl rfl rfl rfl)) | (refine ev_load1 ?_ rfl o4 rfl (old_ S K2.out) ?_; (first | exact want0 rfl | exact want1 rfl rfl rfl rfl)) | (refine ev_own1 S ?_ rfl o9 rfl (by repeat (first | exact Spot.here _ _ | apply Spot.there)) (by exact rfl) ?_; (first | exact want0 rfl | exact want1 rfl rfl rfl rfl)) | (refine ev_own1 S ?_ rfl o4 rfl (by repeat (first | exact Spot.here _ _ | apply Spot.there)) (by exact rfl) ?_; (first | exact want0 rfl | exact want1 rfl rfl rfl rfl)) | ((with_reducible refine gate_dst (N := 11) rfl ?_); refine ev_alloc #[.int .i64 0, .int .u8 0, .string ⟨#[]⟩, .slice none 0 0] rfl S ?_ 11 rfl rfl z45 ?_; (first | exact want0 rfl | exact want1 rfl rfl rfl rfl); intro g11 w11 S_; clear S; have S := S_; clear S_) | (refine ev_puts S ?_ rfl rfl s45 rfl rfl (by repeat (first | exact Spot.here _ _ | apply Spot.there)) rfl ?_ ?_ ?_; (first | exact want0 rfl | exact want1 rfl rfl rfl rfl); rfl; rfl; intro w_ S_; simp only [putAt, List.set_cons_zero, List.set_cons_succ] at S_; clear S; have S := S_; clear S_) | (refine ev_own1 S ?_ rfl o3 rfl (by repeat (first | exact Spot.here _ _ | apply Spot.there)) (by exact rfl) ?_; (first | exact want0 rfl | exact want1 rfl rfl rfl rfl)) | ((with_reducible refine gate_dst (N := 13) rfl ?_); refine ev_alloc #[.int .i64 0, .int .u8 0, .string ⟨#[]⟩, .slice none 0 0] rfl S ?_ 13 rfl rfl z45 ?_; (first | exact want0 rfl | exact want1 rfl rfl rfl rfl); intro g13 w13 S_; clear S; have S := S_; clear S_) | ((with_reducible refine gate_dst (N := 15) rfl ?_); refine ev_alloc #[.int .i64 0, .int .u8 0, .string ⟨#[]⟩, .slice none 0 0] rfl S ?_ 15 rfl rfl z45 ?_; (first | exact want0 rfl | exact want1 rfl rfl rfl rfl); intro g15 w15 S_; clear S; have S := S_; clear S_) | (go_at_call 7; (with_reducible refine (awake_calls _).mono ?_); rintro z_ w_ ⟨rfl, hb_⟩; have S_ := Aside0.mk (S.out.keep hb_); clear hb_; clear S; have S := S_; clear S_) | (go_at_call 8; have c_ := newr_ev S; (with_reducible refine c_.mono ?_); clear c_; rintro z_ w_ ⟨g, rfl, S_⟩; clear S; have S := S_; clear S_) | (go_at_call 11; have c_ := pushn_ok nm S (by repeat (first | exact Spot.here _ _ | apply Spot.there)) hf hm0 hm1; (with_reducible refine c_.mono ?_); clear c_; rintro z_ w_ ⟨rfl, D2, S_⟩; clear S; have S := S_; clear S_; (try dsimp only at S)) | (go_at_call 11; have c_ := pushn_full nm S (by repeat (first | exact Spot.here _ _ | apply Spot.there)) hf hm0 hm1; (with_reducible refine c_.mono ?_); clear c_; rintro z_ w_ ⟨rfl, D2, S_⟩; clear S; have S := S_; clear S_; (try dsimp only at S)) | (go_at_call 12; have c_ := popr S (by repeat (first | exact Spot.here _ _ | apply Spot.there)) HPL.out; (with_reducible refine c_.mono ?_); clear c_; rintro z_ w_ ⟨A5, n5, c5, rfl, S_⟩; clear S; have S := S_; clear S_; (try dsimp only at S)) | (go_at_call 12; have c_ := popr0 S (by repeat (first | exact Spot.here _ _ | apply Spot.there)); (with_reducible refine c_.mono ?_); clear c_; rintro z_ w_ ⟨rfl, S_⟩; clear S; have S := S_; clear S_) | (go_at_call 13; have c_ := camer S (by repeat (first | exact Spot.here _ _ | apply Spot.there)); (with_reducible refine c_.mono ?_); clear c_; rintro z_ w_ ⟨rfl, rfl⟩))
            obtain ⟨g6, o6, hA6, hk6⟩ := wq_head S (by repeat (first | exact Spot.here _ _ | apply Spot.there)) HWS.out
            subst hA6
            have KH0 := Aside0.mk hk6
            have HN7 := Aside0.mk (wq_len S (by repeat (first | exact Spot.here _ _ | apply Spot.there)))
            have h70 : 0 < n6 := by have h_ := HN7.out; rw [HWS.out] at h_; simp at h_; omega
            clear hk6
            have S2 := Aside0.mk S.out.drew
            have KH := Aside0.mk (show _ = some _ from KH0.out)
            clear S
            refine start_ (n := 27) (S := fun w' => w'.cell? ⟨g11, 0, none⟩ = some (.int .i64 (j : Int)) ∧ w'.cell? ⟨g11, 1, none⟩ = some (.int .u8 pk) ∧ w'.cell? ⟨g11, 2, none⟩ = some (.string pn) ∧ w'.cell? ⟨g11, 3, none⟩ = some (.slice A5 n5 c5) ∧ w'.cell? ⟨g6, o6, none⟩ = some (.int .i64 (j : Int)) ∧ w'.cell? (ad.add j) = some (.string pn)) (ds := []) #[false, false, false, false, false, false, false, false, false, false, false, false, false, false, false, false, false, false, false, false, false, false, false, false, false, false, false] (by kernel_rfl) rfl rfl ⟨((own_cell (g := g11) S2 (by repeat (first | exact Spot.here _ _ | apply Spot.there)) 0).trans rfl), ((own_cell (g := g11) S2 (by repeat (first | exact Spot.here _ _ | apply Spot.there)) 1).trans rfl), ((own_cell (g := g11) S2 (by repeat (first | exact Spot.here _ _ | apply Spot.there)) 2).trans rfl), ((own_cell (g := g11) S2 (by repeat (first | exact Spot.here _ _ | apply Spot.there)) 3).trans rfl), KH.out, (old_ S2 KN.out)⟩ (fun hHeld => ?_)
            refine pure_ (i := 0) (N := some 71) (v := ?_) (a' := ?_) #[true, false, false, false, false, false, false, false, false, false, false, false, false, false, false, false, false, false, false, false, false, false, false, false, false, false, false] rfl rfl (by kernel_rfl) (fun _ _ _ h => h) (Or.inl ⟨by rfl, ?_⟩) ?_ ?_
            rotate_left
            · intro w'
              go_simp
              with_reducible rfl
            rotate_left
            · simp only [Act.put, List.setIfInBounds_toArray, List.set_cons_zero, List.set_cons_succ, i64_w, i32_w]
              rfl
            refine pure_ (i := 1) (N := some 72) (v := ?_) (a' := ?_) #[true, true, false, false, false, false, false, false, false, false, false, false, false, false, false, false, false, false, false, false, false, false, false, false, false, false, false] rfl rfl (by kernel_rfl) (fun _ _ _ h => h) (Or.inl ⟨by rfl, ?_⟩) ?_ ?_
            rotate_left
            · intro w'
              go_simp
              with_reducible rfl
            rotate_left
            · simp only [Act.put, List.setIfInBounds_toArray, List.set_cons_zero, List.set_cons_succ, i64_w, i32_w]
              rfl
            refine pure_ (i := 2) (N := some 73) (v := ?_) (a' := ?_) #[true, true, true, false, false, false, false, false, false, false, false, false, false, false, false, false, false, false, false, false, false, false, false, false, false, false, false] rfl rfl (by kernel_rfl) (fun _ _ _ h => h) (Or.inl ⟨by rfl, ?_⟩) ?_ ?_
            rotate_left
            · intro w'
              go_simp
              with_reducible rfl
            rotate_left
            · simp only [Act.put, List.setIfInBounds_toArray, List.set_cons_zero, List.set_cons_succ, i64_w, i32_w]
              rfl
            refine pure_ (i := 3) (N := some 74) (v := ?_) (a' := ?_) #[true, true, true, true, false, false, false, false, false, false, false, false, false, false, false, false, false, false, false, false, false, false, false, false, false, false, false] rfl rfl (by kernel_rfl) (fun _ _ _ h => h) (Or.inl ⟨by rfl, ?_⟩) ?_ ?_
            rotate_left
            · intro w'
              go_simp
              with_reducible rfl
            rotate_left
            · simp only [Act.put, List.setIfInBounds_toArray, List.set_cons_zero, List.set_cons_succ, i64_w, i32_w]
              rfl
            refine pure_ (i := 5) (N := some 76) (v := ?_) (a' := ?_) #[true, true, true, true, false, true, false, false, false, false, false, false, false, false, false, false, false, false, false, false, false, false, false, false, false, false, false] rfl rfl (by kernel_rfl) (fun _ _ _ h => h) (Or.inl ⟨by rfl, ?_⟩) ?_ ?_
            rotate_left
            · intro w'
              go_simp
              with_reducible rfl
            rotate_left
            · simp only [Act.put, List.setIfInBounds_toArray, List.set_cons_zero, List.set_cons_succ, i64_w, i32_w]
              rfl
            refine pure_ (i := 6) (N := some 77) (v := ?_) (a' := ?_) #[true, true, true, true, false, true, true, false, false, false, false, false, false, false, false, false, false, false, false, false, false, false, false, false, false, false, false] rfl rfl (by kernel_rfl) (fun _ _ _ h => h) (Or.inl ⟨by rfl, ?_⟩) ?_ ?_
            rotate_left
            · intro w'
              go_simp
              with_reducible rfl
            rotate_left
            · simp only [Act.put, List.setIfInBounds_toArray, List.set_cons_zero, List.set_cons_succ, i64_w, i32_w]
              rfl
            refine take_ (i := 4) (N := some 75) (v := ?_) (a' := ?_) #[true, true, true, true, true, true, true, false, false, false, false, false, false, false, false, false, false, false, false, false, false, false, false, false, false, false, false] rfl rfl (by kernel_rfl) (fun _ _ _ h => h) (Or.inl ⟨by rfl, ?_⟩) hHeld ?_ ?_
            rotate_left
            · rintro w' ⟨s0, s1, s2, s3, s4, s5⟩
              go_simp
              with_reducible rfl
            rotate_left
            · simp only [Act.put, List.setIfInBounds_toArray, List.set_cons_zero, List.set_cons_succ, i64_w, i32_w]
              rfl
            refine take_ (i := 7) (N := some 78) (v := ?_) (a' := ?_) #[true, true, true, true, true, true, true, true, false, false, false, false, false, false, false, false, false, false, false, false, false, false, false, false, false, false, false] rfl rfl (by kernel_rfl) (fun _ _ _ h => h) (Or.inl ⟨by rfl, ?_⟩) hHeld ?_ ?_
            rotate_left
            · rintro w' ⟨s0, s1, s2, s3, s4, s5⟩
              go_simp
              with_reducible rfl
            rotate_left
            · simp only [Act.put, List.setIfInBounds_toArray, List.set_cons_zero, List.set_cons_succ, i64_w, i32_w]
              rfl
            refine pure_ (i := 8) (N := some 79) (v := ?_) (a' := ?_) #[true, true, true, true, true, true, true, true, true, false, false, false, false, false, false, false, false, false, false, false, false, false, false, false, false, false, false] rfl rfl (by kernel_rfl) (fun _ _ _ h => h) (Or.inl ⟨by rfl, ?_⟩) ?_ ?_
            rotate_left
            · intro w'
              go_simp
              with_reducible rfl
            rotate_left
            · simp only [Act.put, List.setIfInBounds_toArray, List.set_cons_zero, List.set_cons_succ, i64_w, i32_w]
              rfl
            refine pure_ (i := 9) (N := some 80) (v := ?_) (a' := ?_) #[true, true, true, true, true, true, true, true, true, true, false, false, false, false, false, false, false, false, false, false, false, false, false, false, false, false, false] rfl rfl (by kernel_rfl) (fun _ _ _ h => h) (Or.inl ⟨by rfl, ?_⟩) ?_ ?_
            rotate_left
            · intro w'
              go_simp
              with_reducible rfl
            rotate_left
            · simp only [Act.put, List.setIfInBounds_toArray, List.set_cons_zero, List.set_cons_succ, i64_w, i32_w]
              rfl
            refine pure_ (i := 10) (N := some 81) (v := ?_) (a' := ?_) #[true, true, true, true, true, true, true, true, true, true, true, false, false, false, false, false, false, false, false, false, false, false, false, false, false, false, false] rfl rfl (by kernel_rfl) (fun _ _ _ h => h) (Or.inl ⟨by rfl, ?_⟩) ?_ ?_
            rotate_left
            · intro w'
              go_simp
              with_reducible rfl
            rotate_left
            · simp only [Act.put, List.setIfInBounds_toArray, List.set_cons_zero, List.set_cons_succ, i64_w, i32_w]
              rfl
            refine pure_ (i := 11) (N := some 82) (v := ?_) (a' := ?_) #[true, true, true, true, true, true, true, true, true, true, true, true, false, false, false, false, false, false, false, false, false, false, false, false, false, false, false] rfl rfl (by kernel_rfl) (fun _ _ _ h => h) (Or.inl ⟨by rfl, ?_⟩) ?_ ?_
            rotate_left
            · intro w'
              go_simp
              with_reducible rfl
            rotate_left
            · simp only [Act.put, List.setIfInBounds_toArray, List.set_cons_zero, List.set_cons_succ, i64_w, i32_w]
              rfl
            refine pure_ (i := 13) (N := some 84) (v := ?_) (a' := ?_) #[true, true, true, true, true, true, true, true, true, true, true, true, false, true, false, false, false, false, false, false, false, false, false, false, false, false, false] rfl rfl (by kernel_rfl) (fun _ _ _ h => h) (Or.inl ⟨by rfl, ?_⟩) ?_ ?_
            rotate_left
            · intro w'
              go_simp
              with_reducible rfl
            rotate_left
            · simp only [Act.put, List.setIfInBounds_toArray, List.set_cons_zero, List.set_cons_succ, i64_w, i32_w]
              rfl
            refine take_ (i := 12) (N := some 83) (v := ?_) (a' := ?_) #[true, true, true, true, true, true, true, true, true, true, true, true, true, true, false, false, false, false, false, false, false, false, false, false, false, false, false] rfl rfl (by kernel_rfl) (fun _ _ _ h => h) (Or.inl ⟨by rfl, ?_⟩) hHeld ?_ ?_
            rotate_left
            · rintro w' ⟨s0, s1, s2, s3, s4, s5⟩
              go_simp
              with_reducible rfl
            rotate_left
            · simp only [Act.put, List.setIfInBounds_toArray, List.set_cons_zero, List.set_cons_succ, i64_w, i32_w]
              rfl
            refine pure_ (i := 14) (N := some 85) (v := ?_) (a' := ?_) #[true, true, true, true, true, true, true, true, true, true, true, true, true, true, true, false, false, false, false, false, false, false, false, false, false, false, false] rfl rfl (by kernel_rfl) (fun _ _ _ h => h) (Or.inl ⟨by rfl, ?_⟩) ?_ ?_
            rotate_left
            · intro w'
              go_simp
              with_reducible rfl
            rotate_left
            · simp only [Act.put, List.setIfInBounds_toArray, List.set_cons_zero, List.set_cons_succ, i64_w, i32_w]
              rfl
            refine pure_ (i := 15) (N := some 86) (v := ?_) (a' := ?_) #[true, true, true, true, true, true, true, true, true, true, true, true, true, true, true, true, false, false, false, false, false, false, false, false, false, false, false] rfl rfl (by kernel_rfl) (fun _ _ _ h => h) (Or.inl ⟨by rfl, ?_⟩) ?_ ?_
            rotate_left
            · intro w'
              go_simp
              with_reducible rfl
            rotate_left
            · simp only [Act.put, List.setIfInBounds_toArray, List.set_cons_zero, List.set_cons_succ, i64_w, i32_w]
              rfl
            refine pure_ (i := 16) (N := some 87) (v := ?_) (a' := ?_) #[true, true, true, true, true, true, true, true, true, true, true, true, true, true, true, true, true, false, false, false, false, false, false, false, false, false, false] rfl rfl (by kernel_rfl) (fun _ _ _ h => h) (Or.inl ⟨by rfl, ?_⟩) ?_ ?_
            rotate_left
            · intro w'
              go_simp
              with_reducible rfl
            rotate_left
            · simp only [Act.put, List.setIfInBounds_toArray, List.set_cons_zero, List.set_cons_succ, i64_w, i32_w]
              rfl
            refine pure_ (i := 17) (N := some 88) (v := ?_) (a' := ?_) #[true, true, true, true, true, true, true, true, true, true, true, true, true, true, true, true, true, true, false, false, false, false, false, false, false, false, false] rfl rfl (by kernel_rfl) (fun _ _ _ h => h) (Or.inl ⟨by rfl, ?_⟩) ?_ ?_
            rotate_left
            · intro w'
              go_simp
              with_reducible rfl
            rotate_left
            · simp only [Act.put, List.setIfInBounds_toArray, List.set_cons_zero, List.set_cons_succ, i64_w, i32_w]
              rfl
            refine pure_ (i := 18) (N := some 89) (v := ?_) (a' := ?_) #[true, true, true, true, true, true, true, true, true, true, true, true, true, true, true, true, true, true, true, false, false, false, false, false, false, false, false] rfl rfl (by kernel_rfl) (fun _ _ _ h => h) (Or.inl ⟨by rfl, ?_⟩) ?_ ?_
            rotate_left
            · intro w'
              go_simp
              with_reducible rfl
            rotate_left
            · simp only [Act.put, List.setIfInBounds_toArray, List.set_cons_zero, List.set_cons_succ, i64_w, i32_w]
              rfl
            refine pure_ (i := 20) (N := some 91) (v := ?_) (a' := ?_) #[true, true, true, true, true, true, true, true, true, true, true, true, true, true, true, true, true, true, true, false, true, false, false, false, false, false, false] rfl rfl (by kernel_rfl) (fun _ _ _ h => h) (Or.inl ⟨by rfl, ?_⟩) ?_ ?_
            rotate_left
            · intro w'
              go_simp
              with_reducible rfl
            rotate_left
            · simp only [Act.put, List.setIfInBounds_toArray, List.set_cons_zero, List.set_cons_succ, i64_w, i32_w]
              rfl
            refine pure_ (i := 21) (N := some 92) (v := ?_) (a' := ?_) #[true, true, true, true, true, true, true, true, true, true, true, true, true, true, true, true, true, true, true, false, true, true, false, false, false, false, false] rfl rfl (by kernel_rfl) (fun _ _ _ h => h) (Or.inl ⟨by rfl, ?_⟩) ?_ ?_
            rotate_left
            · intro w'
              go_simp
              with_reducible rfl
            rotate_left
            · simp only [Act.put, List.setIfInBounds_toArray, List.set_cons_zero, List.set_cons_succ, i64_w, i32_w]
              rfl
            refine take_ (i := 19) (N := some 90) (v := ?_) (a' := ?_) #[true, true, true, true, true, true, true, true, true, true, true, true, true, true, true, true, true, true, true, true, true, true, false, false, false, false, false] rfl rfl (by kernel_rfl) (fun _ _ _ h => h) (Or.inl ⟨by rfl, ?_⟩) hHeld ?_ ?_
            rotate_left
            · rintro w' ⟨s0, s1, s2, s3, s4, s5⟩
              go_simp
              with_reducible rfl
            rotate_left
            · simp only [Act.put, List.setIfInBounds_toArray, List.set_cons_zero, List.set_cons_succ, i64_w, i32_w]
              rfl
            refine take_ (i := 22) (N := some 93) (v := ?_) (a' := ?_) #[true, true, true, true, true, true, true, true, true, true, true, true, true, true, true, true, true, true, true, true, true, true, true, false, false, false, false] rfl rfl (by kernel_rfl) (fun _ _ _ h => h) (Or.inl ⟨by rfl, ?_⟩) hHeld ?_ ?_
            rotate_left
            · rintro w' ⟨s0, s1, s2, s3, s4, s5⟩
              go_simp
              with_reducible rfl
            rotate_left
            · simp only [Act.put, List.setIfInBounds_toArray, List.set_cons_zero, List.set_cons_succ, i64_w, i32_w]
              rfl
            refine pure_ (i := 23) (N := some 94) (v := ?_) (a' := ?_) #[true, true, true, true, true, true, true, true, true, true, true, true, true, true, true, true, true, true, true, true, true, true, true, true, false, false, false] rfl rfl (by kernel_rfl) (fun _ _ _ h => h) (Or.inl ⟨by rfl, ?_⟩) ?_ ?_
            rotate_left
            · intro w'
              go_simp
              with_reducible rfl
            rotate_left
            · simp only [Act.put, List.setIfInBounds_toArray, List.set_cons_zero, List.set_cons_succ, i64_w, i32_w]
              rfl
            refine take_ (i := 24) (N := some 95) (v := ?_) (a' := ?_) #[true, true, true, true, true, true, true, true, true, true, true, true, true, true, true, true, true, true, true, true, true, true, true, true, true, false, false] rfl rfl (by kernel_rfl) (fun _ _ _ h => h) (Or.inl ⟨by rfl, ?_⟩) hHeld ?_ ?_
            rotate_left
            · rintro w' ⟨s0, s1, s2, s3, s4, s5⟩
              go_simp
              with_reducible rfl
            rotate_left
            · simp only [Act.put, List.setIfInBounds_toArray, List.set_cons_zero, List.set_cons_succ, i64_w, i32_w]
              rfl
            refine pure_ (i := 25) (N := some 96) (v := ?_) (a' := ?_) #[true, true, true, true, true, true, true, true, true, true, true, true, true, true, true, true, true, true, true, true, true, true, true, true, true, true, false] rfl rfl (by kernel_rfl) (fun _ _ _ h => h) (Or.inl ⟨by rfl, ?_⟩) ?_ ?_
            rotate_left
            · intro w'
              go_simp
              with_reducible rfl
            rotate_left
            · simp only [Act.put, List.setIfInBounds_toArray, List.set_cons_zero, List.set_cons_succ, i64_w, i32_w]
              rfl
            refine pure_ (i := 26) (N := some 97) (v := ?_) (a' := ?_) #[true, true, true, true, true, true, true, true, true, true, true, true, true, true, true, true, true, true, true, true, true, true, true, true, true, true, true] rfl rfl (by kernel_rfl) (fun _ _ _ h => h) (Or.inl ⟨by rfl, ?_⟩) ?_ ?_
            rotate_left
            · intro w'
              go_simp
              with_reducible rfl
            rotate_left
            · simp only [Act.put, List.setIfInBounds_toArray, List.set_cons_zero, List.set_cons_succ, i64_w, i32_w]
              rfl
            refine done_ (by kernel_rfl) ?_
            
            have S := S2
            clear S2
            go_wp2
            obtain ⟨A8, n8, c8, hcut, hn8, S8⟩ := wq_cut S (by repeat (first | exact Spot.here _ _ | apply Spot.there)) HWS.out
            (try dsimp only at S8)
            have HN8 := Aside0.mk hn8
            clear S hn8
            have S := S8
            clear S8
            have S2 := Aside0.mk S.out.drew
            clear S
            refine start_ (n := 6) (S := fun w' => w'.cell? ⟨g11, 0, none⟩ = some (.int .i64 (j : Int)) ∧ w'.cell? ⟨g11, 1, none⟩ = some (.int .u8 pk) ∧ w'.cell? ⟨g11, 2, none⟩ = some (.string pn) ∧ w'.cell? ⟨g11, 3, none⟩ = some (.slice A5 n5 c5)) (ds := []) #[false, false, false, false, false, false] (by kernel_rfl) rfl rfl ⟨((own_cell (g := g11) S2 (by repeat (first | exact Spot.here _ _ | apply Spot.there)) 0).trans rfl), ((own_cell (g := g11) S2 (by repeat (first | exact Spot.here _ _ | apply Spot.there)) 1).trans rfl), ((own_cell (g := g11) S2 (by repeat (first | exact Spot.here _ _ | apply Spot.there)) 2).trans rfl), ((own_cell (g := g11) S2 (by repeat (first | exact Spot.here _ _ | apply Spot.there)) 3).trans rfl)⟩ (fun hHeld => ?_)
            refine pure_ (i := 0) (N := some 98) (v := ?_) (a' := ?_) #[true, false, false, false, false, false] rfl rfl (by kernel_rfl) (fun _ _ _ h => h) (Or.inl ⟨by rfl, ?_⟩) ?_ ?_
            rotate_left
            · intro w'
              go_simp
              with_reducible rfl
            rotate_left
            · simp only [Act.put, List.setIfInBounds_toArray, List.set_cons_zero, List.set_cons_succ, i64_w, i32_w]
              rfl
            refine pure_ (i := 2) (N := some 100) (v := ?_) (a' := ?_) #[true, false, true, false, false, false] rfl rfl (by kernel_rfl) (fun _ _ _ h => h) (Or.inl ⟨by rfl, ?_⟩) ?_ ?_
            rotate_left
            · intro w'
              go_simp
              with_reducible rfl
            rotate_left
            · simp only [Act.put, List.setIfInBounds_toArray, List.set_cons_zero, List.set_cons_succ, i64_w, i32_w]
              rfl
            refine pure_ (i := 3) (N := some 101) (v := ?_) (a' := ?_) #[true, false, true, true, false, false] rfl rfl (by kernel_rfl) (fun _ _ _ h => h) (Or.inl ⟨by rfl, ?_⟩) ?_ ?_
            rotate_left
            · intro w'
              go_simp
              with_reducible rfl
            rotate_left
            · simp only [Act.put, List.setIfInBounds_toArray, List.set_cons_zero, List.set_cons_succ, i64_w, i32_w]
              rfl
            refine take_ (i := 1) (N := some 99) (v := ?_) (a' := ?_) #[true, true, true, true, false, false] rfl rfl (by kernel_rfl) (fun _ _ _ h => h) (Or.inl ⟨by rfl, ?_⟩) hHeld ?_ ?_
            rotate_left
            · rintro w' ⟨s0, s1, s2, s3⟩
              go_simp
              with_reducible rfl
            rotate_left
            · simp only [Act.put, List.setIfInBounds_toArray, List.set_cons_zero, List.set_cons_succ, i64_w, i32_w]
              rfl
            refine pure_ (i := 4) (N := some 7) (v := ?_) (a' := ?_) #[true, true, true, true, true, false] rfl rfl (by kernel_rfl) (fun _ _ _ h => h) (Or.inl ⟨by rfl, ?_⟩) ?_ ?_
            rotate_left
            · intro w'
              go_simp
              with_reducible rfl
            rotate_left
            · simp only [Act.put, List.setIfInBounds_toArray, List.set_cons_zero, List.set_cons_succ, i64_w, i32_w]
              rfl
            refine pure_ (i := 5) (N := some 6) (v := ?_) (a' := ?_) #[true, true, true, true, true, true] rfl rfl (by kernel_rfl) (fun _ _ _ h => h) (Or.inl ⟨by rfl, ?_⟩) ?_ ?_
            rotate_left
            · intro w'
              go_simp
              with_reducible rfl
            rotate_left
            · simp only [Act.put, List.setIfInBounds_toArray, List.set_cons_zero, List.set_cons_succ, i64_w, i32_w]
              rfl
            refine done_ (by kernel_rfl) ?_
            
            have S := S2
            clear S2
            go_wp2
            have hlen8 := congrArg List.length HPL.out
            refine ⟨⟨i + 1, L', D2, A8, n8, c8, L'.map It.num, j, by omega, rfl, rfl, by simp, by omega, by omega, ?_, ?_, ⟨rfl⟩, ⟨HWL2.out.pop⟩, ⟨by rw [Int.natCast_add]; exact S.out.drop (List.sublist_cons_self _ _)⟩⟩, ?_⟩
            · simp at hlen8; omega
            · rw [HN8.out]; simp
            · simp [intOf]; omega
    · obtain rfl : i = ns.length := by omega
      have hd2 : decide ((ns.length : Int) < (ns.length : Int)) = false := decide_eq_false (by omega)
      have HN6 := Aside0.mk hn6
      clear hn6
      go_wp2_with (first | ((with_reducible refine gate_builtin (b := .append) (xs := #[.tmp 51, .tmp 53]) rfl ?_); at_builtin; refine Kd.Q_append (Kd.int .i64) (w0 := w) w.heap.size rfl (.tmp 51) (.tmp 53) 40 3 (.int .i64 0) 8 rfl Try.underlying40 info3 rfl (by decide) (by omega) (.slice A6 n6 c6) ws (i : Int) [.int .i64 i] (fun _ => True) (fun _ => False) rfl rfl rfl (fun _ h => h.elim) (fun _ _ => trivial) (wq_open (S.out.holds (WQ w.heap.size (.slice A6 n6 c6) ws) (Spot.mem (by repeat (first | exact Spot.here _ _ | apply Spot.there))))) S.out.below S.out.below.size (by have := HL0.out; omega) ?_; intro v7 w7 ho hb hg hat; obtain ⟨A7, n7, c7, hv7, S_⟩ := wq_app S (by repeat (first | exact Spot.here _ _ | apply Spot.there)) ho hg hat; subst hv7; clear ho hb hg hat; clear S; have S := S_; clear S_; (try dsimp only at S)) | (refine ev_load1 ?_ rfl o9 rfl (old_ S K1.out) ?_; (first | exact want0 rfl | exact want1 rfl rfl rfl rfl)) | (refine ev_load1 ?_ rfl o4 rfl (old_ S K2.out) ?_; (first | exact want0 rfl | exact want1 rfl rfl rfl rfl)) | (refine ev_own1 S ?_ rfl o9 rfl (by repeat (first | exact Spot.here _ _ | apply Spot.there)) (by exact rfl) ?_; (first | exact want0 rfl | exact want1 rfl rfl rfl rfl)) | (refine ev_own1 S ?_ rfl o4 rfl (by repeat (first | exact Spot.here _ _ | apply Spot.there)) (by exact rfl) ?_; (first | exact want0 rfl | exact want1 rfl rfl rfl rfl)) | ((with_reducible refine gate_dst (N := 11) rfl ?_); refine ev_alloc #[.int .i64 0, .int .u8 0, .string ⟨#[]⟩, .slice none 0 0] rfl S ?_ 11 rfl rfl z45 ?_; (first | exact want0 rfl | exact want1 rfl rfl rfl rfl); intro g11 w11 S_; clear S; have S := S_; clear S_) | (refine ev_puts S ?_ rfl rfl s45 rfl rfl (by repeat (first | exact Spot.here _ _ | apply Spot.there)) rfl ?_ ?_ ?_; (first | exact want0 rfl | exact want1 rfl rfl rfl rfl); rfl; rfl; intro w_ S_; simp only [putAt, List.set_cons_zero, List.set_cons_succ] at S_; clear S; have S := S_; clear S_) | (refine ev_own1 S ?_ rfl o3 rfl (by repeat (first | exact Spot.here _ _ | apply Spot.there)) (by exact rfl) ?_; (first | exact want0 rfl | exact want1 rfl rfl rfl rfl)) | ((with_reducible refine gate_dst (N := 13) rfl ?_); refine ev_alloc #[.int .i64 0, .int .u8 0, .string ⟨#[]⟩, .slice none 0 0] rfl S ?_ 13 rfl rfl z45 ?_; (first | exact want0 rfl | exact want1 rfl rfl rfl rfl); intro g13 w13 S_; clear S; have S := S_; clear S_) | ((with_reducible refine gate_dst (N := 15) rfl ?_); refine ev_alloc #[.int .i64 0, .int .u8 0, .string ⟨#[]⟩, .slice none 0 0] rfl S ?_ 15 rfl rfl z45 ?_; (first | exact want0 rfl | exact want1 rfl rfl rfl rfl); intro g15 w15 S_; clear S; have S := S_; clear S_) | (go_at_call 7; (with_reducible refine (awake_calls _).mono ?_); rintro z_ w_ ⟨rfl, hb_⟩; have S_ := Aside0.mk (S.out.keep hb_); clear hb_; clear S; have S := S_; clear S_) | (go_at_call 8; have c_ := newr_ev S; (with_reducible refine c_.mono ?_); clear c_; rintro z_ w_ ⟨g, rfl, S_⟩; clear S; have S := S_; clear S_) | (go_at_call 11; have c_ := pushn_ok nm S (by repeat (first | exact Spot.here _ _ | apply Spot.there)) hf hm0 hm1; (with_reducible refine c_.mono ?_); clear c_; rintro z_ w_ ⟨rfl, D2, S_⟩; clear S; have S := S_; clear S_; (try dsimp only at S)) | (go_at_call 11; have c_ := pushn_full nm S (by repeat (first | exact Spot.here _ _ | apply Spot.there)) hf hm0 hm1; (with_reducible refine c_.mono ?_); clear c_; rintro z_ w_ ⟨rfl, D2, S_⟩; clear S; have S := S_; clear S_; (try dsimp only at S)) | (go_at_call 12; have c_ := popr S (by repeat (first | exact Spot.here _ _ | apply Spot.there)) HPL.out; (with_reducible refine c_.mono ?_); clear c_; rintro z_ w_ ⟨A5, n5, c5, rfl, S_⟩; clear S; have S := S_; clear S_; (try dsimp only at S)) | (go_at_call 12; have c_ := popr0 S (by repeat (first | exact Spot.here _ _ | apply Spot.there)); (with_reducible refine c_.mono ?_); clear c_; rintro z_ w_ ⟨rfl, S_⟩; clear S; have S := S_; clear S_) | (go_at_call 13; have c_ := camer S (by repeat (first | exact Spot.here _ _ | apply Spot.there)); (with_reducible refine c_.mono ?_); clear c_; rintro z_ w_ ⟨rfl, rfl⟩))
      clear HL hl0 hl1
      go_loopw [6] (fun v6 wr => ∃ (L : List It) (D : Nat → Prop) (A6 : Option Addr) (n6 c6 : Nat) (ws : List Int), v6 = .slice A6 n6 c6 ∧ Aside0 (n6 = L.length) ∧ Aside0 (ws = L.map It.num) ∧ Aside0 (St w.heap.size w wr [WQ w.heap.size (.slice A6 n6 c6) ws, RingA g (ns.length : Nat) L D])) (fun v6 _ => match v6 with | .slice _ n _ => n | _ => 0)
      case atStart => exact ⟨L, D, A6, n6, c6, ws, rfl, HN6, HW, S⟩
      case round =>
        clear S HN6 HW
        obtain ⟨L, D, A6, n6, c6, ws, rfl, HN6, HW, S⟩ := hrel
        cases L with
        | nil =>
          have h0 : n6 = 0 := HN6.out
          subst h0
          go_wp2_with (first | ((with_reducible refine gate_builtin (b := .append) (xs := #[.tmp 51, .tmp 53]) rfl ?_); at_builtin; refine Kd.Q_append (Kd.int .i64) (w0 := w) w.heap.size rfl (.tmp 51) (.tmp 53) 40 3 (.int .i64 0) 8 rfl Try.underlying40 info3 rfl (by decide) (by omega) (.slice A6 n6 c6) ws (i : Int) [.int .i64 i] (fun _ => True) (fun _ => False) rfl rfl rfl (fun _ h => h.elim) (fun _ _ => trivial) (wq_open (S.out.holds (WQ w.heap.size (.slice A6 n6 c6) ws) (Spot.mem (by repeat (first | exact Spot.here _ _ | apply Spot.there))))) S.out.below S.out.below.size (by have := HL0.out; omega) ?_; intro v7 w7 ho hb hg hat; obtain ⟨A7, n7, c7, hv7, S_⟩ := wq_app S (by repeat (first | exact Spot.here _ _ | apply Spot.there)) ho hg hat; subst hv7; clear ho hb hg hat; clear S; have S := S_; clear S_; (try dsimp only at S)) | (refine ev_load1 ?_ rfl o9 rfl (old_ S K1.out) ?_; (first | exact want0 rfl | exact want1 rfl rfl rfl rfl)) | (refine ev_load1 ?_ rfl o4 rfl (old_ S K2.out) ?_; (first | exact want0 rfl | exact want1 rfl rfl rfl rfl)) | (refine ev_own1 S ?_ rfl o9 rfl (by repeat (first | exact Spot.here _ _ | apply Spot.there)) (by exact rfl) ?_; (first | exact want0 rfl | exact want1 rfl rfl rfl rfl)) | (refine ev_own1 S ?_ rfl o4 rfl (by repeat (first | exact Spot.here _ _ | apply Spot.there)) (by exact rfl) ?_; (first | exact want0 rfl | exact want1 rfl rfl rfl rfl)) | ((with_reducible refine gate_dst (N := 11) rfl ?_); refine ev_alloc #[.int .i64 0, .int .u8 0, .string ⟨#[]⟩, .slice none 0 0] rfl S ?_ 11 rfl rfl z45 ?_; (first | exact want0 rfl | exact want1 rfl rfl rfl rfl); intro g11 w11 S_; clear S; have S := S_; clear S_) | (refine ev_puts S ?_ rfl rfl s45 rfl rfl (by repeat (first | exact Spot.here _ _ | apply Spot.there)) rfl ?_ ?_ ?_; (first | exact want0 rfl | exact want1 rfl rfl rfl rfl); rfl; rfl; intro w_ S_; simp only [putAt, List.set_cons_zero, List.set_cons_succ] at S_; clear S; have S := S_; clear S_) | (refine ev_own1 S ?_ rfl o3 rfl (by repeat (first | exact Spot.here _ _ | apply Spot.there)) (by exact rfl) ?_; (first | exact want0 rfl | exact want1 rfl rfl rfl rfl)) | ((with_reducible refine gate_dst (N := 13) rfl ?_); refine ev_alloc #[.int .i64 0, .int .u8 0, .string ⟨#[]⟩, .slice none 0 0] rfl S ?_ 13 rfl rfl z45 ?_; (first | exact want0 rfl | exact want1 rfl rfl rfl rfl); intro g13 w13 S_; clear S; have S := S_; clear S_) | ((with_reducible refine gate_dst (N := 15) rfl ?_); refine ev_alloc #[.int .i64 0, .int .u8 0, .string ⟨#[]⟩, .slice none 0 0] rfl S ?_ 15 rfl rfl z45 ?_; (first | exact want0 rfl | exact want1 rfl rfl rfl rfl); intro g15 w15 S_; clear S; have S := S_; clear S_) | (go_at_call 7; (with_reducible refine (awake_calls _).mono ?_); rintro z_ w_ ⟨rfl, hb_⟩; have S_ := Aside0.mk (S.out.keep hb_); clear hb_; clear S; have S := S_; clear S_) | (go_at_call 8; have c_ := newr_ev S; (with_reducible refine c_.mono ?_); clear c_; rintro z_ w_ ⟨g, rfl, S_⟩; clear S; have S := S_; clear S_) | (go_at_call 11; have c_ := pushn_ok nm S (by repeat (first | exact Spot.here _ _ | apply Spot.there)) hf hm0 hm1; (with_reducible refine c_.mono ?_); clear c_; rintro z_ w_ ⟨rfl, D2, S_⟩; clear S; have S := S_; clear S_; (try dsimp only at S)) | (go_at_call 11; have c_ := pushn_full nm S (by repeat (first | exact Spot.here _ _ | apply Spot.there)) hf hm0 hm1; (with_reducible refine c_.mono ?_); clear c_; rintro z_ w_ ⟨rfl, D2, S_⟩; clear S; have S := S_; clear S_; (try dsimp only at S)) | (go_at_call 12; have c_ := popr S (by repeat (first | exact Spot.here _ _ | apply Spot.there)) HPL.out; (with_reducible refine c_.mono ?_); clear c_; rintro z_ w_ ⟨A5, n5, c5, rfl, S_⟩; clear S; have S := S_; clear S_; (try dsimp only at S)) | (go_at_call 12; have c_ := popr0 S (by repeat (first | exact Spot.here _ _ | apply Spot.there)); (with_reducible refine c_.mono ?_); clear c_; rintro z_ w_ ⟨rfl, S_⟩; clear S; have S := S_; clear S_) | (go_at_call 13; have c_ := camer S (by repeat (first | exact Spot.here _ _ | apply Spot.there)); (with_reducible refine c_.mono ?_); clear c_; rintro z_ w_ ⟨rfl, rfl⟩))
          go_ret
          exact ⟨rfl, S.out.below⟩
        | cons p L' =>
          obtain ⟨pnum, pk, pn, po⟩ := p
          have HPL := Aside0.mk (rfl : (⟨pnum, pk, pn, po⟩ : It) :: L' = ⟨pnum, pk, pn, po⟩ :: L')
          have h60 : 0 < n6 := by have h_ := HN6.out; simp at h_; omega
          have hd7 : decide (0 < n6) = true := decide_eq_true (by omega)
          have HWS := Aside0.mk (show ws = pnum :: L'.map It.num from HW.out)
          go_wp2_with (first | ((with_reducible refine gate_builtin (b := .append) (xs := #[.tmp 51, .tmp 53]) rfl ?_); at_builtin; refine Kd.Q_append (Kd.int .i64) (w0 := w) w.heap.size rfl (.tmp 51) (.tmp 53) 40 3 (.int .i64 0) 8 rfl Try.underlying40 info3 rfl (by decide) (by omega) (.slice A6 n6 c6) ws (i : Int) [.int .i64 i] (fun _ => True) (fun _ => False) rfl rfl rfl (fun _ h => h.elim) (fun _ _ => trivial) (wq_open (S.out.holds (WQ w.heap.size (.slice A6 n6 c6) ws) (Spot.mem (by repeat (first | exact Spot.here _ _ | apply Spot.there))))) S.out.below S.out.below.size (by have := HL0.out; omega) ?_; intro v7 w7 ho hb hg hat; obtain ⟨A7, n7, c7, hv7, S_⟩ := wq_app S (by repeat (first | exact Spot.here _ _ | apply Spot.there)) ho hg hat; subst hv7; clear ho hb hg hat; clear S; have S := S_; clear S_; (try dsimp only at S)) | (refine ev_load1 ?_ rfl o9 rfl (old_ S K1.out) ?_; (first | exact want0 rfl | exact want1 rfl rfl rfl rfl)) | (refine ev_load1 ?_ rfl o4 rfl (old_ S K2.out) ?_; (first | exact want0 rfl | exact want1 rfl rfl rfl rfl)) | (refine ev_own1 S ?_ rfl o9 rfl (by repeat (first | exact Spot.here _ _ | apply Spot.there)) (by exact rfl) ?_; (first | exact want0 rfl | exact want1 rfl rfl rfl rfl)) | (refine ev_own1 S ?_ rfl o4 rfl (by repeat (first | exact Spot.here _ _ | apply Spot.there)) (by exact rfl) ?_; (first | exact want0 rfl | exact want1 rfl rfl rfl rfl)) | ((with_reducible refine gate_dst (N := 11) rfl ?_); refine ev_alloc #[.int .i64 0, .int .u8 0, .string ⟨#[]⟩, .slice none 0 0] rfl S ?_ 11 rfl rfl z45 ?_; (first | exact want0 rfl | exact want1 rfl rfl rfl rfl); intro g11 w11 S_; clear S; have S := S_; clear S_) | (refine ev_puts S ?_ rfl rfl s45 rfl rfl (by repeat (first | exact Spot.here _ _ | apply Spot.there)) rfl ?_ ?_ ?_; (first | exact want0 rfl | exact want1 rfl rfl rfl rfl); rfl; rfl; intro w_ S_; simp only [putAt, List.set_cons_zero, List.set_cons_succ] at S_; clear S; have S := S_; clear S_) | (refine ev_own1 S ?_ rfl o3 rfl (by repeat (first | exact Spot.here _ _ | apply Spot.there)) (by exact rfl) ?_; (first | exact want0 rfl | exact want1 rfl rfl rfl rfl)) | ((with_reducible refine gate_dst (N := 13) rfl ?_); refine ev_alloc #[.int .i64 0, .int .u8 0, .string ⟨#[]⟩, .slice none 0 0] rfl S ?_ 13 rfl rfl z45 ?_; (first | exact want0 rfl | exact want1 rfl rfl rfl rfl); intro g13 w13 S_; clear S; have S := S_; clear S_) | ((with_reducible refine gate_dst (N := 15) rfl ?_); refine ev_alloc #[.int .i64 0, .int .u8 0, .string ⟨#[]⟩, .slice none 0 0] rfl S ?_ 15 rfl rfl z45 ?_; (first | exact want0 rfl | exact want1 rfl rfl rfl rfl); intro g15 w15 S_; clear S; have S := S_; clear S_) | (go_at_call 7; (with_reducible refine (awake_calls _).mono ?_); rintro z_ w_ ⟨rfl, hb_⟩; have S_ := Aside0.mk (S.out.keep hb_); clear hb_; clear S; have S := S_; clear S_) | (go_at_call 8; have c_ := newr_ev S; (with_reducible refine c_.mono ?_); clear c_; rintro z_ w_ ⟨g, rfl, S_⟩; clear S; have S := S_; clear S_) | (go_at_call 11; have c_ := pushn_ok nm S (by repeat (first | exact Spot.here _ _ | apply Spot.there)) hf hm0 hm1; (with_reducible refine c_.mono ?_); clear c_; rintro z_ w_ ⟨rfl, D2, S_⟩; clear S; have S := S_; clear S_; (try dsimp only at S)) | (go_at_call 11; have c_ := pushn_full nm S (by repeat (first | exact Spot.here _ _ | apply Spot.there)) hf hm0 hm1; (with_reducible refine c_.mono ?_); clear c_; rintro z_ w_ ⟨rfl, D2, S_⟩; clear S; have S := S_; clear S_; (try dsimp only at S)) | (go_at_call 12; have c_ := popr S (by repeat (first | exact Spot.here _ _ | apply Spot.there)) HPL.out; (with_reducible refine c_.mono ?_); clear c_; rintro z_ w_ ⟨A5, n5, c5, rfl, S_⟩; clear S; have S := S_; clear S_; (try dsimp only at S)) | (go_at_call 12; have c_ := popr0 S (by repeat (first | exact Spot.here _ _ | apply Spot.there)); (with_reducible refine c_.mono ?_); clear c_; rintro z_ w_ ⟨rfl, S_⟩; clear S; have S := S_; clear S_) | (go_at_call 13; have c_ := camer S (by repeat (first | exact Spot.here _ _ | apply Spot.there)); (with_reducible refine c_.mono ?_); clear c_; rintro z_ w_ ⟨rfl, rfl⟩))
          obtain ⟨g6, o6, hA6, hk6⟩ := wq_head S (by repeat (first | exact Spot.here _ _ | apply Spot.there)) HWS.out
          subst hA6
          have KH0 := Aside0.mk hk6
          clear hk6
          have S2 := Aside0.mk S.out.drew
          have KH := Aside0.mk (show _ = some _ from KH0.out)
          clear S
          refine start_ (n := 10) (S := fun w' => w'.cell? ⟨g13, 0, none⟩ = some (.int .i64 pnum) ∧ w'.cell? ⟨g13, 1, none⟩ = some (.int .u8 pk) ∧ w'.cell? ⟨g13, 2, none⟩ = some (.string pn) ∧ w'.cell? ⟨g13, 3, none⟩ = some (.slice A5 n5 c5) ∧ w'.cell? ⟨g6, o6, none⟩ = some (.int .i64 pnum)) (ds := []) #[false, false, false, false, false, false, false, false, false, false] (by kernel_rfl) rfl rfl ⟨((own_cell (g := g13) S2 (by repeat (first | exact Spot.here _ _ | apply Spot.there)) 0).trans rfl), ((own_cell (g := g13) S2 (by repeat (first | exact Spot.here _ _ | apply Spot.there)) 1).trans rfl), ((own_cell (g := g13) S2 (by repeat (first | exact Spot.here _ _ | apply Spot.there)) 2).trans rfl), ((own_cell (g := g13) S2 (by repeat (first | exact Spot.here _ _ | apply Spot.there)) 3).trans rfl), KH.out⟩ (fun hHeld => ?_)
          refine pure_ (i := 0) (N := some 110) (v := ?_) (a' := ?_) #[true, false, false, false, false, false, false, false, false, false] rfl rfl (by kernel_rfl) (fun _ _ _ h => h) (Or.inl ⟨by rfl, ?_⟩) ?_ ?_
          rotate_left
          · intro w'
            go_simp
            with_reducible rfl
          rotate_left
          · simp only [Act.put, List.setIfInBounds_toArray, List.set_cons_zero, List.set_cons_succ, i64_w, i32_w]
            rfl
          refine pure_ (i := 1) (N := some 111) (v := ?_) (a' := ?_) #[true, true, false, false, false, false, false, false, false, false] rfl rfl (by kernel_rfl) (fun _ _ _ h => h) (Or.inl ⟨by rfl, ?_⟩) ?_ ?_
          rotate_left
          · intro w'
            go_simp
            with_reducible rfl
          rotate_left
          · simp only [Act.put, List.setIfInBounds_toArray, List.set_cons_zero, List.set_cons_succ, i64_w, i32_w]
            rfl
          refine pure_ (i := 2) (N := some 112) (v := ?_) (a' := ?_) #[true, true, true, false, false, false, false, false, false, false] rfl rfl (by kernel_rfl) (fun _ _ _ h => h) (Or.inl ⟨by rfl, ?_⟩) ?_ ?_
          rotate_left
          · intro w'
            go_simp
            with_reducible rfl
          rotate_left
          · simp only [Act.put, List.setIfInBounds_toArray, List.set_cons_zero, List.set_cons_succ, i64_w, i32_w]
            rfl
          refine pure_ (i := 3) (N := some 113) (v := ?_) (a' := ?_) #[true, true, true, true, false, false, false, false, false, false] rfl rfl (by kernel_rfl) (fun _ _ _ h => h) (Or.inl ⟨by rfl, ?_⟩) ?_ ?_
          rotate_left
          · intro w'
            go_simp
            with_reducible rfl
          rotate_left
          · simp only [Act.put, List.setIfInBounds_toArray, List.set_cons_zero, List.set_cons_succ, i64_w, i32_w]
            rfl
          refine pure_ (i := 5) (N := some 115) (v := ?_) (a' := ?_) #[true, true, true, true, false, true, false, false, false, false] rfl rfl (by kernel_rfl) (fun _ _ _ h => h) (Or.inl ⟨by rfl, ?_⟩) ?_ ?_
          rotate_left
          · intro w'
            go_simp
            with_reducible rfl
          rotate_left
          · simp only [Act.put, List.setIfInBounds_toArray, List.set_cons_zero, List.set_cons_succ, i64_w, i32_w]
            rfl
          refine pure_ (i := 6) (N := some 116) (v := ?_) (a' := ?_) #[true, true, true, true, false, true, true, false, false, false] rfl rfl (by kernel_rfl) (fun _ _ _ h => h) (Or.inl ⟨by rfl, ?_⟩) ?_ ?_
          rotate_left
          · intro w'
            go_simp
            with_reducible rfl
          rotate_left
          · simp only [Act.put, List.setIfInBounds_toArray, List.set_cons_zero, List.set_cons_succ, i64_w, i32_w]
            rfl
          refine take_ (i := 4) (N := some 114) (v := ?_) (a' := ?_) #[true, true, true, true, true, true, true, false, false, false] rfl rfl (by kernel_rfl) (fun _ _ _ h => h) (Or.inl ⟨by rfl, ?_⟩) hHeld ?_ ?_
          rotate_left
          · rintro w' ⟨s0, s1, s2, s3, s4⟩
            go_simp
            with_reducible rfl
          rotate_left
          · simp only [Act.put, List.setIfInBounds_toArray, List.set_cons_zero, List.set_cons_succ, i64_w, i32_w]
            rfl
          refine take_ (i := 7) (N := some 117) (v := ?_) (a' := ?_) #[true, true, true, true, true, true, true, true, false, false] rfl rfl (by kernel_rfl) (fun _ _ _ h => h) (Or.inl ⟨by rfl, ?_⟩) hHeld ?_ ?_
          rotate_left
          · rintro w' ⟨s0, s1, s2, s3, s4⟩
            go_simp
            with_reducible rfl
          rotate_left
          · simp only [Act.put, List.setIfInBounds_toArray, List.set_cons_zero, List.set_cons_succ, i64_w, i32_w]
            rfl
          refine pure_ (i := 8) (N := some 118) (v := ?_) (a' := ?_) #[true, true, true, true, true, true, true, true, true, false] rfl rfl (by kernel_rfl) (fun _ _ _ h => h) (Or.inl ⟨by rfl, ?_⟩) ?_ ?_
          rotate_left
          · intro w'
            go_simp
            with_reducible rfl
          rotate_left
          · simp only [Act.put, List.setIfInBounds_toArray, List.set_cons_zero, List.set_cons_succ, i64_w, i32_w]
            rfl
          refine pure_ (i := 9) (N := some 119) (v := ?_) (a' := ?_) #[true, true, true, true, true, true, true, true, true, true] rfl rfl (by kernel_rfl) (fun _ _ _ h => h) (Or.inl ⟨by rfl, ?_⟩) ?_ ?_
          rotate_left
          · intro w'
            go_simp
            with_reducible rfl
          rotate_left
          · simp only [Act.put, List.setIfInBounds_toArray, List.set_cons_zero, List.set_cons_succ, i64_w, i32_w]
            rfl
          refine done_ (by kernel_rfl) ?_
          
          have S := S2
          clear S2
          obtain ⟨A8, n8, c8, hcut, hn8, S8⟩ := wq_cut S (by repeat (first | exact Spot.here _ _ | apply Spot.there)) HWS.out
          (try dsimp only at S8)
          clear S
          have HN8 := Aside0.mk hn8
          clear hn8
          go_wp2
          have e8 : n8 = L'.length := by rw [HN8.out]; simp
          have e6 : n6 = L'.length + 1 := HN6.out
          refine ⟨⟨L', D, A8, n8, c8, _, rfl, ⟨e8⟩, ⟨rfl⟩, ⟨S8.out.drop (List.sublist_cons_self _ _)⟩⟩, ?_⟩
          simp only
          omega
end Go.Proofs.Ytipcflkijcccdaa.Order
