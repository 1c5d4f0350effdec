/- A graph that is not there. -/
import Derived.Test.YtaomemhnjpemiaaGr
namespace Go.Proofs.Ytaomemhnjpemiaa.Mp
open Go Go.Maps Go.RowKit Go.Proofs.Ytaomemhnjpemiaa.PB Go.Proofs.Ytaomemhnjpemiaa.Doc Go.Proofs.Ytaomemhnjpemiaa.Sep Go.Proofs.Ytaomemhnjpemiaa.Ev Go.Proofs.Ytaomemhnjpemiaa.Ty Go.Proofs.YtaomemhnjpemiaaW.PrintWords Go.Proofs.YtaomemhnjpemiaaW.PrintLast Go.Proofs.YtaomemhnjpemiaaW.PrintMore
set_option linter.unusedVariables false
set_option linter.unusedSimpArgs false

set_option maxRecDepth 100000 in
set_option maxHeartbeats 4000000 in
theorem nil_has (w : World) (a : ByteArray) : Calls Try.prog 15 #[.pointer none, .string a] w fun z w' => z = .returned (.bool false) ∧ Below w.heap.size w w' := by
 have S := Aside0.mk (St.start w)
 go_enter Try.func15, Try.ntmps15
 go_wp2
 go_ret
 exact ⟨rfl, S.out.below⟩

set_option maxRecDepth 100000 in
set_option maxHeartbeats 4000000 in
theorem nil_add (w : World) (a : ByteArray) : Calls Try.prog 21 #[.pointer none, .string a, .slice none 0 0] w fun z w' => z = .returned (.int .i64 1) ∧ Below w.heap.size w w' := by
 have S := Aside0.mk (St.start w)
 go_enter Try.func21, Try.ntmps21
 go_wp2
 go_ret
 exact ⟨rfl, S.out.below⟩

set_option maxRecDepth 100000 in
set_option maxHeartbeats 4000000 in
theorem nil_remove (w : World) (a : ByteArray) : Calls Try.prog 22 #[.pointer none, .string a] w fun z w' => z = .returned (.int .i64 1) ∧ Below w.heap.size w w' := by
 have S := Aside0.mk (St.start w)
 go_enter Try.func22, Try.ntmps22
 go_wp2
 go_ret
 exact ⟨rfl, S.out.below⟩

set_option maxRecDepth 100000 in
set_option maxHeartbeats 4000000 in
theorem nil_turn (w : World) (a : ByteArray) : Calls Try.prog 17 #[.pointer none, .string a, .slice none 0 0] w fun z w' => z = .returned (.int .i64 1) ∧ Below w.heap.size w w' := by
 have S := Aside0.mk (St.start w)
 go_enter Try.func17, Try.ntmps17
 go_wp2_with (first | ((with_reducible refine gate_dst (N := 3) rfl ?_); refine ev_box1 S ?_ 3 rfl rfl rfl rfl ?_; (first | exact want0 rfl | exact want1 rfl rfl rfl rfl); intro g3 w3 S_; clear S; have S := S_; clear S_) | ((with_reducible refine gate_dst (N := 4) rfl ?_); refine ev_box1 S ?_ 4 rfl rfl rfl rfl ?_; (first | exact want0 rfl | exact want1 rfl rfl rfl rfl); intro g4 w4 S_; clear S; have S := S_; clear S_) | (refine ev_own1 S ?_ rfl o25 rfl (by repeat (first | exact Spot.here _ _ | apply Spot.there)) (by exact rfl) ?_; (first | exact want0 rfl | exact want1 rfl rfl rfl rfl)) | (refine ev_own1 S ?_ rfl o9 rfl (by repeat (first | exact Spot.here _ _ | apply Spot.there)) (by exact rfl) ?_; (first | exact want0 rfl | exact want1 rfl rfl rfl rfl)) | go_in)
 go_ret
 exact ⟨rfl, S.out.below⟩

set_option maxRecDepth 100000 in
set_option maxHeartbeats 4000000 in
theorem nil_deps (w : World) (a : ByteArray) : Calls Try.prog 14 #[.pointer none, .string a] w fun z w' => z = .returned (.slice none 0 0) ∧ Below w.heap.size w w' := by
 have S := Aside0.mk (St.start w)
 go_enter Try.func14, Try.ntmps14
 go_wp2
 go_ret
 exact ⟨rfl, S.out.below⟩

set_option maxRecDepth 100000 in
set_option maxHeartbeats 4000000 in
theorem nil_dependents (w : World) (a : ByteArray) : Calls Try.prog 23 #[.pointer none, .string a] w fun z w' => z = .returned (.slice none 0 0) ∧ Below w.heap.size w w' := by
 have S := Aside0.mk (St.start w)
 go_enter Try.func23, Try.ntmps23
 go_wp2
 go_ret
 exact ⟨rfl, S.out.below⟩

set_option maxRecDepth 100000 in
set_option maxHeartbeats 4000000 in
theorem nil_reaches (w : World) (a b : ByteArray) : Calls Try.prog 16 #[.pointer none, .string a, .string b] w fun z w' => z = .returned (.bool false) ∧ Below w.heap.size w w' := by
 have S := Aside0.mk (St.start w)
 go_enter Try.func16, Try.ntmps16
 go_wp2_with (first | ((with_reducible refine gate_dst (N := 3) rfl ?_); refine ev_box1 S ?_ 3 rfl rfl rfl rfl ?_; (first | exact want0 rfl | exact want1 rfl rfl rfl rfl); intro g3 w3 S_; clear S; have S := S_; clear S_) | ((with_reducible refine gate_dst (N := 5) rfl ?_); refine ev_box1 S ?_ 5 rfl rfl rfl rfl ?_; (first | exact want0 rfl | exact want1 rfl rfl rfl rfl); intro g5 w5 S_; clear S; have S := S_; clear S_) | (refine ev_own1 S ?_ rfl o25 rfl (by repeat (first | exact Spot.here _ _ | apply Spot.there)) (by exact rfl) ?_; (first | exact want0 rfl | exact want1 rfl rfl rfl rfl)) | (refine ev_own1 S ?_ rfl o9 rfl (by repeat (first | exact Spot.here _ _ | apply Spot.there)) (by exact rfl) ?_; (first | exact want0 rfl | exact want1 rfl rfl rfl rfl)) | (go_at_call 15; have c_ := nil_has _ a; (with_reducible refine c_.mono ?_); clear c_; rintro z_ w_ ⟨rfl, hb_⟩; have S_ := Aside0.mk (S.out.keep hb_); clear hb_; clear S; have S := S_; clear S_) | go_in)
 go_ret
 exact ⟨rfl, S.out.below⟩

set_option maxRecDepth 100000 in
set_option maxHeartbeats 4000000 in
theorem nil_order (w : World) : Calls Try.prog 13 #[.pointer none] w fun z w' => z = .returned (.slice none 0 0) ∧ Below w.heap.size w w' := by
 have S := Aside0.mk (St.start w)
 go_enter Try.func13, Try.ntmps13
 go_wp2_with (first | ((with_reducible refine gate_dst (N := 1) rfl ?_); refine ev_box1 S ?_ 1 rfl rfl rfl rfl ?_; (first | exact want0 rfl | exact want1 rfl rfl rfl rfl); intro g1 w1 S_; clear S; have S := S_; clear S_) | (refine ev_own1 S ?_ rfl o25 rfl (by repeat (first | exact Spot.here _ _ | apply Spot.there)) (by exact rfl) ?_; (first | exact want0 rfl | exact want1 rfl rfl rfl rfl)) | go_in)
 go_ret
 exact ⟨rfl, S.out.below⟩

set_option maxRecDepth 100000 in
set_option maxHeartbeats 4000000 in
theorem nil_fork (w : World) : Calls Try.prog 20 #[.pointer none] w fun z w' => z = .returned (.pointer none) ∧ Below w.heap.size w w' := by
 have S := Aside0.mk (St.start w)
 go_enter Try.func20, Try.ntmps20
 go_wp2
 go_ret
 exact ⟨rfl, S.out.below⟩
end Go.Proofs.Ytaomemhnjpemiaa.Mp
