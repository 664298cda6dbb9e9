/- The law ScaleRuns. -/
import Derived.Test.YtnammdkpejocmaaLB
import Derived.Test.YtnammdkpejocmaaQ4
namespace Go.Proofs.Ytnammdkpejocmaa.Print
open Go.RowKit Go.Proofs.YtnammdkpejocmaaW.PrintWords Go.Proofs.YtnammdkpejocmaaW.PrintLast Go.Proofs.YtnammdkpejocmaaW.PrintMore
set_option linter.unusedVariables false
set_option linter.unusedSimpArgs false

theorem runS_len (a : S23) (l : List S47) : (runS a l).1.length ≤ l.length := by
  unfold runS
  split
  · rw [runP_len]; exact Nat.le_refl _
  · simp
theorem ScaleRuns_true (a : S23) (l : List S47) (p : List S45) (n : Int) : gasworkslaw13_ScaleRuns.f (1000 + 1) a.f0 a.f1 a.f2 a.f3 a.f4 a.f5 l p n = some true := by
  have e1 := RRun_fk 900 a l
  have e2 := RCheck_fk 800 a l p
  have e3 := RNeeded_fk 800 a l n
  have e4 := Pay_fk 900 (runS a l).1
  rw [show 800 + 200 = 1000 from rfl] at e2 e3
  rw [show 900 + 100 = 1000 from rfl] at e1 e4
  have hl := runS_len a l
  unfold gasworkslaw13_ScaleRuns.f
  by_cases h : (l.length : Int) > 24
  · rw [if_pos h]
    rw [gasworkslaw13_ScaleRuns.j0]
    rw [if_pos rfl]
    rfl
  · rw [if_neg h]
    rw [gasworkslaw13_ScaleRuns.j0]
    by_cases h2 : (p.length : Int) > 30
    · rw [if_pos (by simpa using h2)]
      rfl
    · rw [if_neg (by simpa using h2)]
      show ((some (runS a l)).bind _) = _
      rw [Option.bind_some, e1, Option.bind_some]
      show ((some (checkS a l p)).bind _) = _
      rw [Option.bind_some, e2 (by omega), Option.bind_some]
      show ((some (neededS a l n)).bind _) = _
      rw [Option.bind_some, e3, Option.bind_some, e4 (by omega), Option.bind_some, if_pos rfl, if_pos rfl, if_pos rfl, if_pos rfl, if_pos rfl, if_pos rfl]
      rfl
theorem ScaleRuns_walk (a : S23) (A1 : Option Addr) (c1 : Nat) (l1 : List S47) (A2 : Option Addr) (c2 : Nat) (l2 : List S45) (n : Int) (w : World) (hr1 : Kd.C k47 w A1 l1.length l1) (hc1 : l1.length ≤ c1) (hr2 : Kd.C k45 w A2 l2.length l2) (hc2 : l2.length ≤ c2) (_ : (Lit.int .i64 n).wf = true) :
    Calls Try.prog 4 #[actV a, .slice A1 l1.length c1, .slice A2 l2.length c2, .int .i64 n] w fun e w' => e = .returned (.bool true) ∧ Below w.heap.size w w' :=
  gasworkslaw13_ScaleRuns.calls _ _ _ _ _ _ _ A1 c1 l1 A2 c2 l2 n _ w hr1 hc1 hr2 hc2 (ScaleRuns_true a l1 l2 n) rfl
end Go.Proofs.Ytnammdkpejocmaa.Print
