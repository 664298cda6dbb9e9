/- The act and its rate: what is valid, and the rate of a price. -/
import Derived.Test.YtnammdkpejocmaaPrint3
import Derived.Deep.RegionHeld3
import Derived.Laws.EntriesVeiled
namespace Go.Proofs.Ytnammdkpejocmaa.Print
open Go.RowKit Go.Proofs.YtnammdkpejocmaaW.PrintWords Go.Proofs.YtnammdkpejocmaaW.PrintLast Go.Proofs.YtnammdkpejocmaaW.PrintMore
set_option linter.unusedVariables false
set_option linter.unusedSimpArgs false

def withinB (a b c : Int) : Bool := decide (b ≤ a ∧ a ≤ c)
def actB (a : S23) : Bool := withinB a.f0 0 100000 && withinB a.f2 1 100000 && (withinB a.f1 0 10000 && withinB a.f3 0 10000) && withinB a.f4 0 1099511627776 && withinB a.f5 0 5
def rateP (a : S23) (price : Int) : Int := max 0 (min 10000 (a.f1 + a.f3 * ((a.f0 - price) / a.f2)))
abbrev actV (a : S23) : Value := .agg #[.int .i64 a.f0, .int .i64 a.f1, .int .i64 a.f2, .int .i64 a.f3, .int .i64 a.f4, .int .i64 a.f5]
theorem act_of {a : S23} (h : actB a = true) : 0 ≤ a.f0 ∧ a.f0 ≤ 100000 ∧ 1 ≤ a.f2 ∧ a.f2 ≤ 100000 ∧ 0 ≤ a.f1 ∧ a.f1 ≤ 10000 ∧ 0 ≤ a.f3 ∧ a.f3 ≤ 10000 ∧ 0 ≤ a.f4 ∧ a.f4 ≤ 1099511627776 ∧ 0 ≤ a.f5 ∧ a.f5 ≤ 5 := by
  simp only [actB, withinB, Bool.and_eq_true, decide_eq_true_eq] at h
  omega
theorem within_f (a b c : Int) : scale_within.f a b c = some (withinB a b c) := by
  unfold scale_within.f withinB
  by_cases h : b ≤ a
  · rw [if_pos h]
    simp [h]
  · rw [if_neg h]
    simp [h]
theorem within_any (a b c : Int) (w : World) : Calls Try.prog 26 #[.int .i64 a, .int .i64 b, .int .i64 c] w fun e w' => e = .returned (.bool (withinB a b c)) ∧ Drawn0 w w' :=
  scale_within.calls a b c _ w (within_f a b c)
theorem isAct_f (a : S23) : scale_isAct.f 2 a.f0 a.f1 a.f2 a.f3 a.f4 a.f5 = some (actB a) := by
  unfold scale_isAct.f actB
  simp only [within_f, Option.bind_some, scale_isAct.j0, scale_isAct.j1]
  cases withinB a.f0 0 100000 <;> cases withinB a.f2 1 100000 <;> cases withinB a.f1 0 10000 <;> cases withinB a.f3 0 10000 <;> cases withinB a.f4 0 1099511627776 <;> cases withinB a.f5 0 5 <;> rfl
theorem isAct_any (a : S23) (w : World) : Calls Try.prog 25 #[actV a] w fun e w' => e = .returned (.bool (actB a)) ∧ Below w.heap.size w w' :=
  scale_isAct.calls 2 _ _ _ _ _ _ _ w (isAct_f a)
/-! ### How a price differs -/
set_option maxHeartbeats 1000000 in
theorem slide_le (a : S23) (price : Int) (w : World) (h : price ≤ a.f0) (h0 : 0 ≤ price) (h1 : a.f0 ≤ 100000) :
    Calls Try.prog 40 #[actV a, .int .i64 price] w fun e w' => e = .returned (.iface 88 (.int .i64 (a.f0 - price))) ∧ Below w.heap.size w w' := by
  have hd : decide (price ≤ a.f0) = true := decide_eq_true h
  have hw : wrap64 (a.f0 - price) = a.f0 - price := by unfold wrap64; omega
  clear h
  go_enter Try.func40, Try.ntmps40
  go_wp2_with (fail)
  go_ret
  exact ⟨rfl, below_alloc (Below.refl _ _) _⟩
set_option maxHeartbeats 1000000 in
theorem slide_gt (a : S23) (price : Int) (w : World) (h : ¬ price ≤ a.f0) (h0 : 0 ≤ a.f0) (h1 : price ≤ 100000) :
    Calls Try.prog 40 #[actV a, .int .i64 price] w fun e w' => e = .returned (.iface 89 (.int .i64 (price - a.f0))) ∧ Below w.heap.size w w' := by
  have hd : decide (price ≤ a.f0) = false := decide_eq_false h
  have hw : wrap64 (price - a.f0) = price - a.f0 := by unfold wrap64; omega
  go_enter Try.func40, Try.ntmps40
  go_wp2_with (fail)
  go_ret
  exact ⟨rfl, below_alloc (Below.refl _ _) _⟩
set_option maxHeartbeats 1000000 in
theorem cheaper_any (c s : Int) (w : World) (hc : 0 ≤ c ∧ c ≤ 100000) (hs : 1 ≤ s ∧ s ≤ 100000) :
    Calls Try.prog 63 #[.int .i64 c, .int .i64 s] w fun e w' => e = .returned (.int .i64 (c / s)) ∧ w = w' := by
  have hn : ¬ s = 0 := by omega
  have hd : 0 ≤ c / s := Int.ediv_nonneg hc.1 (by omega)
  have hd2 : c / s ≤ c := Int.ediv_le_self _ hc.1
  have hq : wrap64 (c.tdiv s) = c / s := by rw [Int.tdiv_eq_ediv_of_nonneg hc.1]; unfold wrap64; omega
  go_enter Try.func63, Try.ntmps63
  go_wp2_with (fail)
  go_ret
  exact ⟨rfl, rfl⟩
set_option maxHeartbeats 1000000 in
theorem dearer_any (c s : Int) (w : World) (hc : 0 ≤ c ∧ c ≤ 100000) (hs : 1 ≤ s ∧ s ≤ 100000) :
    Calls Try.prog 64 #[.int .i64 c, .int .i64 s] w fun e w' => e = .returned (.int .i64 (-((c + s - 1) / s))) ∧ w = w' := by
  have hn : ¬ s = 0 := by omega
  have h0 : 0 ≤ c + s - 1 := by omega
  have hd : 0 ≤ (c + s - 1) / s := Int.ediv_nonneg h0 (by omega)
  have hd2 : (c + s - 1) / s ≤ c + s - 1 := Int.ediv_le_self _ h0
  have hw1 : wrap64 (c + s) = c + s := by unfold wrap64; omega
  have hw2 : wrap64 (c + s - 1) = c + s - 1 := by unfold wrap64; omega
  have hq : wrap64 ((c + s - 1).tdiv s) = (c + s - 1) / s := by rw [Int.tdiv_eq_ediv_of_nonneg h0]; unfold wrap64; omega
  have hm : wrap64 (-((c + s - 1) / s)) = -((c + s - 1) / s) := by unfold wrap64; omega
  go_enter Try.func64, Try.ntmps64
  go_wp2_with (fail)
  go_ret
  exact ⟨rfl, rfl⟩
end Go.Proofs.Ytnammdkpejocmaa.Print
