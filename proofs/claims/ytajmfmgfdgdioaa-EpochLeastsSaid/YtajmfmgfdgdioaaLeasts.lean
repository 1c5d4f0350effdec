/- The least epoch, what has passed: as the document says. -/
import Derived.Test.YtajmfmgfdgdioaaSys
namespace Go.Proofs.Ytajmfmgfdgdioaa.Leasts
open Go.Proofs.Ytajmfmgfdgdioaa.Pure Go.Proofs.Ytajmfmgfdgdioaa.Cl
open Go.RowKit Go.Proofs.Ytajmfmgfdgdioaa.Sep Go.Proofs.YtajmfmgfdgdioaaW.PrintWords Go.Proofs.YtajmfmgfdgdioaaW.PrintLast Go.Proofs.YtajmfmgfdgdioaaW.PrintMore Go.Proofs.Ytajmfmgfdgdioaa.Ev Go.Proofs.Ytajmfmgfdgdioaa.Ty
open Go.Proofs.Ytajmfmgfdgdioaa.PC hiding z46 z59 z67
set_option linter.unusedVariables false
set_option linter.unusedSimpArgs false

set_option maxRecDepth 100000 in
set_option maxHeartbeats 4000000 in
theorem leasts (A : Option Addr) (hs : List S59) (c : Nat) (e : Int) (w : World) (hC : Kd.C k59 w A hs.length hs) (hc : hs.length ≤ c) :
    Calls Try.prog 3 #[.slice A hs.length c, .int .u64 e] w fun z w' => z = .returned (.bool true) ∧ Below w.heap.size w w' := by
  have HC := Aside0.mk hC
  have hm : hs.length ≤ 9223372036854775807 := hC.2.1
  have HL := Aside0.mk ((least_f hs hm _ (Nat.lt_succ_self _)).trans (show some (lst hs 0 false) = some ((lst hs 0 false).1, (lst hs 0 false).2) from rfl))
  have HR := Aside0.mk ((rleast_f hs hm _ (Nat.lt_succ_self _)).trans (show some (lst hs 0 false) = some ((lst hs 0 false).1, (lst hs 0 false).2) from rfl))
  have HP := Aside0.mk (passed_f hs hm _ (Nat.lt_succ_self _) e)
  have HQ := Aside0.mk (rpassed_f hs hm _ (Nat.lt_succ_self _) e)
  generalize (lst hs 0 false).1 = a at *
  generalize (lst hs 0 false).2 = b at *
  generalize pas hs e = p at *
  have e1 : (a == a) = true := by simp
  have e2 : (b == b) = true := by simp
  have e3 : (p == p) = true := by simp
  have S := Aside0.mk (St.start w)
  clear hC hm
  go_enter Try.func3, Try.ntmps3
  go_wp2_with (first | (go_at_call 8; (with_reducible refine (epoch_Least.calls _ A c hs a b _ (Kd.C_below HC.out S.out.below) hc HL.out).mono ?_); rintro z_ w_ ⟨rfl, hb_⟩; have hb2_ := hb_; have S_ := Aside0.mk (S.out.keep hb2_); clear hb2_ hb_; clear S; have S := S_; clear S_) | (go_at_call 9; (with_reducible refine (budwoodref17_Least.calls _ A c hs a b _ (Kd.C_below HC.out S.out.below) hc HR.out).mono ?_); rintro z_ w_ ⟨rfl, ⟨m_, rfl⟩⟩; have S_ := Aside0.mk (S.out.drewN m_); clear S; have S := S_; clear S_) | (go_at_call 10; (with_reducible refine (epoch_Passed.calls _ A c hs e p _ (Kd.C_below HC.out S.out.below) hc HP.out).mono ?_); rintro z_ w_ ⟨rfl, hb_⟩; have hb2_ := hb_; have S_ := Aside0.mk (S.out.keep hb2_); clear hb2_ hb_; clear S; have S := S_; clear S_) | (go_at_call 11; (with_reducible refine (budwoodref17_Passed.calls _ A c hs e p _ (Kd.C_below HC.out S.out.below) hc HQ.out).mono ?_); rintro z_ w_ ⟨rfl, ⟨m_, rfl⟩⟩; have S_ := Aside0.mk (S.out.drewN m_); clear S; have S := S_; clear S_) | (go_at_call 12; (with_reducible refine (awake_calls _).mono ?_); rintro z_ w_ ⟨rfl, hb_⟩; have hb2_ := hb_; have S_ := Aside0.mk (S.out.keep hb2_); clear hb2_ hb_; clear S; have S := S_; clear S_))
  go_ret
  exact ⟨rfl, S.out.below⟩
end Go.Proofs.Ytajmfmgfdgdioaa.Leasts
