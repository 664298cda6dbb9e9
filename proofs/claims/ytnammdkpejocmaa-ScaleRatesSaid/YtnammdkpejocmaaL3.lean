/- The law ScaleRates. -/
import Derived.Test.YtnammdkpejocmaaLA
import Derived.Test.YtnammdkpejocmaaQ3
namespace Go.Proofs.Ytnammdkpejocmaa.Print
open Go.RowKit Go.Proofs.YtnammdkpejocmaaW.PrintWords Go.Proofs.YtnammdkpejocmaaW.PrintLast Go.Proofs.YtnammdkpejocmaaW.PrintMore
set_option linter.unusedVariables false
set_option linter.unusedSimpArgs false

theorem ScaleRates_true (a : S23) (p r : Int) : gasworkslaw13_ScaleRates.f 100300 a.f0 a.f1 a.f2 a.f3 a.f4 a.f5 p r = some true := by
  unfold gasworkslaw13_ScaleRates.f
  have e2 := RDear_f 298 a r
  rw [show 298 + 100002 = 100300 from rfl] at e2
  show ((some (rateS a p)).bind _) = _
  rw [Option.bind_some, RRate_f, Option.bind_some]
  show ((some (dearestS a r)).bind _) = _
  rw [Option.bind_some, e2, Option.bind_some, if_pos rfl, if_pos rfl, if_pos rfl, if_pos rfl]
  rfl
theorem ScaleRates_walk (a : S23) (p r : Int) (w : World) (_ : (Lit.int .i64 p).wf = true) (_ : (Lit.int .i64 r).wf = true) :
    Calls Try.prog 3 #[actV a, .int .i64 p, .int .i64 r] w fun e w' => e = .returned (.bool true) ∧ Below w.heap.size w w' :=
  gasworkslaw13_ScaleRates.calls _ _ _ _ _ _ _ _ _ _ w (ScaleRates_true a p r) rfl
end Go.Proofs.Ytnammdkpejocmaa.Print
