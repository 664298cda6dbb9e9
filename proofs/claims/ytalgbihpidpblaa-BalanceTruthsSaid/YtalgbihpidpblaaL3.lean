/- BalanceTruths: the law's function is true of every plant. -/
import Derived.Test.YtalgbihpidpblaaM6
import Derived.Test.YtalgbihpidpblaaP3
namespace Go.Proofs.Ytalgbihpidpblaa.Print
open Go.RowKit Go.Shelf Go.Proofs.YtalgbihpidpblaaW.PrintWords Go.Proofs.YtalgbihpidpblaaW.PrintLast Go.Proofs.YtalgbihpidpblaaW.PrintMore
set_option linter.unusedVariables false
set_option linter.unusedSimpArgs false

theorem truths_law (pl : Int) (l : List S47) : Ev (fun k => gasworkslaw04_BalanceTruths.f k pl l) true := by
  obtain ⟨b, hb, hc⟩ := large_ev pl l
  unfold gasworkslaw04_BalanceTruths.f
  refine Ev.bind hb ?_
  cases b with
  | true => exact Ev.congr (fun k => if_pos rfl) (Ev.now true)
  | false =>
    have hcap : ¬ (isPlantB pl l = true ∧ 1099511627776 < cnt l) := fun h => by
      have := hc rfl h.1
      omega
    have e1 : gasworksref04_Truth.f pl l = some (truRef pl l) := if_neg hcap
    have e2 : gasworksref04_Tight.f pl l = some (tightS pl l) := by rw [← tight_ref]; exact if_neg hcap
    have e3 : Ev (fun k => balance_Tight.f k pl l) (tightS pl l) := Ev.of (fun _ => balance_Tight.mono _ _ _) (tight_eq pl l)
    have i1 : Ev (fun k => gasworksref04_Ints.f k (truRef pl l).1 (truRef pl l).1) true := by
      have := ints_ev (truRef pl l).1 (truRef pl l).1 (truRef_len pl l)
      simpa using this
    have i2 := spans_ev (tightS pl l).1 (tightS_len pl l)
    refine Ev.congr (fun k => if_neg (by decide)) ?_
    rw [truth_f, e1, e2]
    simp only [Option.bind_some]
    refine Ev.bind e3 (Ev.bind i1 ?_)
    refine Ev.congr (fun k => (if_pos rfl).trans (if_pos trivial)) (Ev.bind i2 ?_)
    exact Ev.congr (fun k => (if_pos rfl).trans (if_pos rfl)) (Ev.now true)

theorem BalanceTruths_walk (pl : Int) (A : Option Addr) (c : Nat) (l : List S47) (w : World) (hr : Kd.C k47 w A l.length l) (hc : l.length ≤ c) :
    Calls Try.prog 3 #[.agg #[.int .i64 pl, .slice A l.length c]] w fun e w' => e = .returned (.bool true) ∧ Below w.heap.size w w' := by
  obtain ⟨k, hk⟩ := (truths_law pl l).rounds
  exact gasworkslaw04_BalanceTruths.calls k pl A c l true w hr hc hk
end Go.Proofs.Ytalgbihpidpblaa.Print
