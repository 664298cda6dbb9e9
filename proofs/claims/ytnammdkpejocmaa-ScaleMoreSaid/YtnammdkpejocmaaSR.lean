/- Rate: the rate of a price. -/
import Derived.Test.YtnammdkpejocmaaSB
namespace Go.Proofs.Ytnammdkpejocmaa.Print
open Go.RowKit Go.Proofs.YtnammdkpejocmaaW.PrintWords Go.Proofs.YtnammdkpejocmaaW.PrintLast Go.Proofs.YtnammdkpejocmaaW.PrintMore
set_option linter.unusedVariables false
set_option linter.unusedSimpArgs false
attribute [local go_sem] Oper.semAt_some
def rateS (a : S23) (p : Int) : Int × Int := if actB a = true then (if withinB p 0 100000 = true then (rateP a p, 0) else (0, 2)) else (0, 1)
set_option maxHeartbeats 4000000 in
theorem Rate_any (a : S23) (p : Int) (w : World) :
    Calls Try.prog 10 #[actV a, .int .i64 p] w fun e w' => e = .returned (.tuple #[.int .i64 (rateS a p).1, .int .i64 (rateS a p).2]) ∧ Below w.heap.size w w' := by
  have HB0 := Aside0.mk (below_alloc (Below.refl w.heap.size w) (.cells #[.int .i64 a.f0, .int .i64 a.f1, .int .i64 a.f2, .int .i64 a.f3, .int .i64 a.f4, .int .i64 a.f5] 23))
  have BP0 := Aside0.mk (blk_new w (.cells #[.int .i64 a.f0, .int .i64 a.f1, .int .i64 a.f2, .int .i64 a.f3, .int .i64 a.f4, .int .i64 a.f5] 23))
  generalize hrr : rateS a p = rr
  have HRES := Aside0.mk hrr
  clear hrr
  unfold rateS at HRES
  have HWI := Aside0.mk (fun W => within_any p 0 100000 W)
  have HIA := Aside0.mk (fun W => isAct_any a W)
  generalize hA : actB a = A at HRES HIA
  generalize hWi : withinB p 0 100000 = Wi at HRES HWI
  cases A
  · go_enter Try.func10, Try.ntmps10
    go_wp2_with (first | (go_at_call 25; refine (HIA.out _).mono ?_; rintro e W1 ⟨rfl, hb⟩; have HB1 := Aside0.mk (bl_next' HB0.out hb); clear hb))
    go_ret2
    obtain rfl := HRES.out
    exact ⟨rfl, HB1.out⟩
  · cases Wi
    · go_enter Try.func10, Try.ntmps10
      go_wp2_with (first | (go_at_call 25; refine (HIA.out _).mono ?_; rintro e W1 ⟨rfl, hb⟩; have HB1 := Aside0.mk (bl_next' HB0.out hb); clear hb) | (go_at_call 26; refine (HWI.out _).mono ?_; rintro e W2 ⟨rfl, hb⟩; have HB2 := Aside0.mk (bl_next' HB1.out hb.below); clear hb))
      go_ret2
      obtain rfl := HRES.out
      exact ⟨rfl, HB2.out⟩
    · simp only [withinB, decide_eq_true_eq] at hWi
      have HRT := Aside0.mk (fun W => rate_any a p W hA hWi.1 hWi.2)
      generalize rateP a p = q at HRES HRT
      go_enter Try.func10, Try.ntmps10
      go_wp2_with (first | (go_at_call 25; refine (HIA.out _).mono ?_; rintro e W1 ⟨rfl, hb⟩; have HB1 := Aside0.mk (bl_next' HB0.out hb); have BP := Aside0.mk (blk_below BP0.out hb); have s0 : W1.cell? ⟨w.heap.size, 0, none⟩ = some (.int .i64 a.f0) := cell_two BP.out 0 rfl; have s1 : W1.cell? ⟨w.heap.size, 1, none⟩ = some (.int .i64 a.f1) := cell_two BP.out 1 rfl; have s2 : W1.cell? ⟨w.heap.size, 2, none⟩ = some (.int .i64 a.f2) := cell_two BP.out 2 rfl; have s3 : W1.cell? ⟨w.heap.size, 3, none⟩ = some (.int .i64 a.f3) := cell_two BP.out 3 rfl; have s4 : W1.cell? ⟨w.heap.size, 4, none⟩ = some (.int .i64 a.f4) := cell_two BP.out 4 rfl; have s5 : W1.cell? ⟨w.heap.size, 5, none⟩ = some (.int .i64 a.f5) := cell_two BP.out 5 rfl; clear hb) | (go_at_call 26; refine (HWI.out _).mono ?_; rintro e W2 ⟨rfl, hb⟩; have HB2 := Aside0.mk (bl_next' HB1.out hb.below); have BP2 := Aside0.mk (blk_below BP.out hb.below); clear s0 s1 s2 s3 s4 s5; have s0 : W2.cell? ⟨w.heap.size, 0, none⟩ = some (.int .i64 a.f0) := cell_two BP2.out 0 rfl; have s1 : W2.cell? ⟨w.heap.size, 1, none⟩ = some (.int .i64 a.f1) := cell_two BP2.out 1 rfl; have s2 : W2.cell? ⟨w.heap.size, 2, none⟩ = some (.int .i64 a.f2) := cell_two BP2.out 2 rfl; have s3 : W2.cell? ⟨w.heap.size, 3, none⟩ = some (.int .i64 a.f3) := cell_two BP2.out 3 rfl; have s4 : W2.cell? ⟨w.heap.size, 4, none⟩ = some (.int .i64 a.f4) := cell_two BP2.out 4 rfl; have s5 : W2.cell? ⟨w.heap.size, 5, none⟩ = some (.int .i64 a.f5) := cell_two BP2.out 5 rfl; clear hb) | (go_at_call 27; refine (HRT.out _).mono ?_; rintro e W3 ⟨rfl, hb⟩; have HB3 := Aside0.mk (bl_next' HB2.out hb); clear hb))
      go_ret2
      obtain rfl := HRES.out
      exact ⟨rfl, HB3.out⟩
end Go.Proofs.Ytnammdkpejocmaa.Print
