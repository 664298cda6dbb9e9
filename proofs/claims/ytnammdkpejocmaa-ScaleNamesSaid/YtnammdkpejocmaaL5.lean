/- The law ScaleNames. -/
import Derived.Test.YtnammdkpejocmaaLX
import Derived.Test.YtnammdkpejocmaaQ5
namespace Go.Proofs.Ytnammdkpejocmaa.Print
open Go.RowKit Go.Proofs.YtnammdkpejocmaaW.PrintWords Go.Proofs.YtnammdkpejocmaaW.PrintLast Go.Proofs.YtnammdkpejocmaaW.PrintMore
set_option linter.unusedVariables false
set_option linter.unusedSimpArgs false

theorem names_l0 (k : Nat) (L : List S47) (X : List S39) (j : Nat) (hj : j < X.length) (hX : X.length ≤ 10) (h : rateS exA (rd_T39 X (j : Int)).f0 = ((rd_T39 X (j : Int)).f1, 0)) :
    gasworkslaw13_ScaleNames.l0 (k + 3) L true X (X.length : Int) (j : Int) 48 1000 4 25 500 1 = gasworkslaw13_ScaleNames.l0 (k + 2) L true X (X.length : Int) ((j + 1 : Nat) : Int) 48 1000 4 25 500 1 := by
  have e1 : scale_Rate.f 48 1000 4 25 500 1 (rd_T39 X (j : Int)).f0 = some ((rd_T39 X (j : Int)).f1, 0) := by show some (rateS exA _) = _; rw [h]
  rw [show k + 3 = (k + 2) + 1 from rfl, gasworkslaw13_ScaleNames.l0, if_pos (by omega), if_pos (by omega), if_pos (by omega), e1, Option.bind_some, if_pos rfl, if_pos rfl, w64 (by omega) (by omega), show (j : Int) + 1 = ((j + 1 : Nat) : Int) by omega]
  rfl
theorem names_l1 (k : Nat) (L : List S47) (X : List S41) (j : Nat) (hj : j < X.length) (hX : X.length ≤ 10) (h : dearestS exA (rd_T41 X (j : Int)).f0 = ((rd_T41 X (j : Int)).f1, 0)) :
    gasworkslaw13_ScaleNames.l1 (k + 1) L true X (X.length : Int) (j : Int) 48 1000 4 25 500 1 = gasworkslaw13_ScaleNames.l1 k L true X (X.length : Int) ((j + 1 : Nat) : Int) 48 1000 4 25 500 1 := by
  have e1 : scale_Dearest.f 48 1000 4 25 500 1 (rd_T41 X (j : Int)).f0 = some ((rd_T41 X (j : Int)).f1, 0) := by show some (dearestS exA _) = _; rw [h]
  rw [gasworkslaw13_ScaleNames.l1, if_pos (by omega), if_pos (by omega), if_pos (by omega), e1, Option.bind_some, if_pos rfl, if_pos rfl, w64 (by omega) (by omega), show (j : Int) + 1 = ((j + 1 : Nat) : Int) by omega]
  rfl
theorem exNeed1 : neededS exA exL 1 = (1125, 0) := by kernel_rfl
theorem exNeed3 : neededS exA exL 3 = (260, 0) := by kernel_rfl
theorem ScaleNames_true : gasworkslaw13_ScaleNames.f 1000 = some true := by
  unfold gasworkslaw13_ScaleNames.f gasworkslaw13_sample.f
  rw [Option.bind_some, Option.bind_some]
  have hA : actB exA = true := by decide +kernel
  have d0 : dearestS exA 1000 = (48, 0) := dear_of exA 1000 48 hA (by omega) (by omega) (by decide +kernel) (fun _ => by decide +kernel)
  have d1 : dearestS exA 1026 = (40, 0) := dear_of exA 1026 40 hA (by omega) (by omega) (by decide +kernel) (fun _ => by decide +kernel)
  have d2 : dearestS exA 0 = (100000, 0) := dear_of exA 0 100000 hA (by omega) (by omega) (by decide +kernel) (fun h => by omega)
  have s0 := names_l0 997 exL [⟨48, 1000⟩, ⟨44, 1025⟩, ⟨49, 975⟩, ⟨40, 1050⟩] 0 (by decide) (by decide) (by kernel_rfl)
  have s1 := names_l0 996 exL [⟨48, 1000⟩, ⟨44, 1025⟩, ⟨49, 975⟩, ⟨40, 1050⟩] 1 (by decide) (by decide) (by kernel_rfl)
  have s2 := names_l0 995 exL [⟨48, 1000⟩, ⟨44, 1025⟩, ⟨49, 975⟩, ⟨40, 1050⟩] 2 (by decide) (by decide) (by kernel_rfl)
  have s3 := names_l0 994 exL [⟨48, 1000⟩, ⟨44, 1025⟩, ⟨49, 975⟩, ⟨40, 1050⟩] 3 (by decide) (by decide) (by kernel_rfl)
  have t0 := names_l1 994 exL [⟨1000, 48⟩, ⟨1026, 40⟩, ⟨0, 100000⟩] 0 (by decide) (by decide) d0
  have t1 := names_l1 993 exL [⟨1000, 48⟩, ⟨1026, 40⟩, ⟨0, 100000⟩] 1 (by decide) (by decide) d1
  have t2 := names_l1 992 exL [⟨1000, 48⟩, ⟨1026, 40⟩, ⟨0, 100000⟩] 2 (by decide) (by decide) d2
  show gasworkslaw13_ScaleNames.l0 1000 exL true [⟨48, 1000⟩, ⟨44, 1025⟩, ⟨49, 975⟩, ⟨40, 1050⟩] _ ((0 : Nat) : Int) 48 1000 4 25 500 1 = _
  refine s0.trans (s1.trans (s2.trans (s3.trans ?_)))
  show gasworkslaw13_ScaleNames.l0 (995 + 1) exL true [⟨48, 1000⟩, ⟨44, 1025⟩, ⟨49, 975⟩, ⟨40, 1050⟩] _ _ 48 1000 4 25 500 1 = _
  rw [gasworkslaw13_ScaleNames.l0, if_neg (by decide), Option.bind_some]
  refine t0.trans (t1.trans (t2.trans ?_))
  show gasworkslaw13_ScaleNames.l1 (991 + 1) exL true _ _ _ 48 1000 4 25 500 1 = _
  rw [gasworkslaw13_ScaleNames.l1, if_neg (by decide)]
  show ((some (neededS exA exL 1)).bind _) = _
  rw [exNeed1, Option.bind_some]
  show ((some (neededS exA exL 3)).bind _) = _
  rw [exNeed3, Option.bind_some]
  rfl
theorem ScaleNames_walk (w : World) :
    Calls Try.prog 5 #[] w fun e w' => e = .returned (.bool true) ∧ Below w.heap.size w w' :=
  gasworkslaw13_ScaleNames.calls _ _ w ScaleNames_true rfl
end Go.Proofs.Ytnammdkpejocmaa.Print
