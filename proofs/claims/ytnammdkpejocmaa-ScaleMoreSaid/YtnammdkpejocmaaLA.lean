/- The document's answers: what the reference's printed functions compute. -/
import Derived.Test.YtnammdkpejocmaaSO
import Derived.Test.YtnammdkpejocmaaSR
import Derived.Test.YtnammdkpejocmaaSG
import Derived.Test.YtnammdkpejocmaaPrint4
import Derived.Test.YtnammdkpejocmaaPrint5
namespace Go.Proofs.Ytnammdkpejocmaa.Print
open Go.RowKit Go.Proofs.YtnammdkpejocmaaW.PrintWords Go.Proofs.YtnammdkpejocmaaW.PrintLast Go.Proofs.YtnammdkpejocmaaW.PrintMore
set_option linter.unusedVariables false
set_option linter.unusedSimpArgs false

theorem w64 {x : Int} (h : -9223372036854775808 ≤ x) (h2 : x < 9223372036854775808) : wrap64 x = x := by unfold wrap64; omega
theorem in_f (a b c : Int) : gasworksref13_in.f a b c = some (withinB a b c) := by
  unfold gasworksref13_in.f withinB
  by_cases h : b ≤ a
  · rw [if_pos h]; simp [h]
  · rw [if_neg h]; simp [h]
theorem Act_f (a : S23) : gasworksref13_Act.f a.f0 a.f1 a.f2 a.f3 a.f4 a.f5 = some (actB a) := by
  unfold gasworksref13_Act.f actB
  simp only [in_f, Option.bind_some]
  cases withinB a.f0 0 100000 <;> cases withinB a.f2 1 100000 <;> cases withinB a.f1 0 10000 <;> cases withinB a.f3 0 10000 <;> cases withinB a.f4 0 1099511627776 <;> cases withinB a.f5 0 5 <;> rfl
theorem Year_f (y : S47) : gasworksref13_Year.f y.f0 y.f1 y.f2 = some (!badY y) := by
  unfold gasworksref13_Year.f badY
  simp only [in_f, Option.bind_some]
  cases withinB y.f0 0 100000 <;> cases withinB y.f1 0 1099511627776 <;> cases withinB y.f2 (-1099511627776) 1099511627776 <;> rfl
theorem floor_t (a b : Int) (hb : 0 < b) : (if a.tdiv b * b > a then a.tdiv b - 1 else a.tdiv b) = a / b := by
  have h1 := Int.tdiv_eq_ediv (a := a) (b := b)
  have h2 := Int.mul_ediv_add_emod a b
  have h3 := Int.emod_nonneg a (show b ≠ 0 by omega)
  have h4 := Int.emod_lt_of_pos a hb
  have hs : b.sign = 1 := Int.sign_eq_one_of_pos hb
  rw [hs] at h1
  by_cases hc : 0 ≤ a ∨ b ∣ a
  · rw [if_pos hc, Int.add_zero] at h1
    rw [h1, if_neg]
    rw [Int.mul_comm]
    omega
  · rw [if_neg hc] at h1
    have hd : a % b ≠ 0 := fun h => hc (.inr (Int.dvd_of_emod_eq_zero h))
    rw [h1, if_pos]
    · omega
    · rw [Int.mul_comm, Int.mul_add]
      omega
theorem mnmx (x : Int) : mn 10000 (mx 0 x) = max 0 (min 10000 x) := by unfold mn mx; split <;> split <;> omega
theorem rrate_f (a : S23) (p : Int) (ha : actB a = true) (h0 : 0 ≤ p) (h1 : p ≤ 100000) : gasworksref13_rate.f a.f0 a.f1 a.f2 a.f3 a.f4 a.f5 p = some (rateP a p) := by
  obtain ⟨a0, a1, a2, a3, a4, a5, a6, a7, _, _, _, _⟩ := act_of ha
  have e1 : wrap64 (a.f0 - p) = a.f0 - p := w64 (by omega) (by omega)
  have hf := floor_t (a.f0 - p) a.f2 (by omega)
  have hab := Int.natAbs_tdiv_le_natAbs (a.f0 - p) a.f2
  have b1 : -100000 ≤ (a.f0 - p).tdiv a.f2 ∧ (a.f0 - p).tdiv a.f2 ≤ 100000 := by omega
  have e2 : wrap64 ((a.f0 - p).tdiv a.f2) = (a.f0 - p).tdiv a.f2 := w64 (by omega) (by omega)
  generalize hq : (a.f0 - p).tdiv a.f2 = q at hf b1 e2
  have m1 : ∀ x y : Int, -100001 ≤ x → x ≤ 100001 → 0 ≤ y → y ≤ 100000 → -10000200000 ≤ x * y ∧ x * y ≤ 10000200000 := by
    intro x y hx hx' hy hy'
    have h1 : x * y ≤ 100001 * y := Int.mul_le_mul_of_nonneg_right hx' hy
    have h2 : -100001 * y ≤ x * y := Int.mul_le_mul_of_nonneg_right hx hy
    omega
  have e3 : wrap64 (q * a.f2) = q * a.f2 := by have := m1 q a.f2 (by omega) (by omega) (by omega) (by omega); exact w64 (by omega) (by omega)
  have e4 : wrap64 (q - 1) = q - 1 := w64 (by omega) (by omega)
  have e5 : wrap64 ((q - 1) * a.f3) = (q - 1) * a.f3 := by have := m1 (q - 1) a.f3 (by omega) (by omega) (by omega) (by omega); exact w64 (by omega) (by omega)
  have e6 : wrap64 (q * a.f3) = q * a.f3 := by have := m1 q a.f3 (by omega) (by omega) (by omega) (by omega); exact w64 (by omega) (by omega)
  have e7 : wrap64 (a.f1 + (q - 1) * a.f3) = a.f1 + (q - 1) * a.f3 := by have := m1 (q - 1) a.f3 (by omega) (by omega) (by omega) (by omega); exact w64 (by omega) (by omega)
  have e8 : wrap64 (a.f1 + q * a.f3) = a.f1 + q * a.f3 := by have := m1 q a.f3 (by omega) (by omega) (by omega) (by omega); exact w64 (by omega) (by omega)
  unfold gasworksref13_rate.f rateP
  rw [if_neg (by omega)]
  simp only [e1, hq, e2, e3, e4, e5, e6, e7, e8, mnmx]
  rw [← hf]
  by_cases hc : q * a.f2 > a.f0 - p
  · rw [if_pos hc, if_pos hc, Int.mul_comm]
  · rw [if_neg hc, if_neg hc, Int.mul_comm]
theorem RRate_f (a : S23) (p : Int) : gasworksref13_Rate.f a.f0 a.f1 a.f2 a.f3 a.f4 a.f5 p = some (rateS a p) := by
  unfold gasworksref13_Rate.f rateS
  simp only [Act_f, in_f, Option.bind_some]
  by_cases h1 : actB a = true
  · rw [if_pos h1, if_pos h1]
    by_cases h2 : withinB p 0 100000 = true
    · rw [if_pos h2, if_pos h2]
      simp only [withinB, decide_eq_true_eq] at h2
      rw [rrate_f a p h1 h2.1 h2.2]
      rfl
    · rw [if_neg h2, if_neg h2]
  · rw [if_neg h1, if_neg h1]
/-! ### Dearest -/
theorem countN_succ (a : S23) (r : Int) (n : Nat) (ha : actB a = true) : countN a r (n + 1) = if r ≤ rateP a n then n + 1 else countN a r n := by
  unfold countN
  rw [List.range_succ, List.countP_append]
  by_cases h : r ≤ rateP a n
  · rw [if_pos h]
    have e : (List.range n).countP (fun i : Nat => !decide (rateP a (i : Int) < r)) = n := by
      have : (List.range n).countP (fun i : Nat => !decide (rateP a (i : Int) < r)) = (List.range n).length := List.countP_eq_length.2 fun i hi => by
        have hi := List.mem_range.1 hi
        have := rate_anti a ha (p := (i : Int)) (q := (n : Int)) (by omega)
        simp
        omega
      rw [this, List.length_range]
    rw [e]
    simp
    omega
  · rw [if_neg h]
    simp
    omega
theorem Dear_l0 (a : S23) (r : Int) (ha : actB a = true) : ∀ (n k : Nat), n ≤ 100001 → n < k → gasworksref13_Dearest.l0 k r ((n : Int) - 1) a.f0 a.f1 a.f2 a.f3 a.f4 a.f5 = some (if countN a r n = 0 then (0, 4) else ((countN a r n : Int) - 1, 0))
  | 0, k + 1, _, _ => by
    unfold gasworksref13_Dearest.l0
    rw [if_neg (by omega)]
    rfl
  | n + 1, k + 1, hn, hk => by
    have e : ((n + 1 : Nat) : Int) - 1 = n := by omega
    rw [e]
    unfold gasworksref13_Dearest.l0
    rw [if_pos (by omega), rrate_f a n ha (by omega) (by omega), Option.bind_some, countN_succ a r n ha]
    by_cases h : r ≤ rateP a n
    · rw [if_pos h, if_pos h, if_neg (by omega)]
      simp
    · rw [if_neg h, if_neg h, w64 (by omega) (by omega), Dear_l0 a r ha n k (by omega) (by omega)]
theorem RDear_f (k : Nat) (a : S23) (r : Int) : gasworksref13_Dearest.f (k + 100002) a.f0 a.f1 a.f2 a.f3 a.f4 a.f5 r = some (dearestS a r) := by
  unfold gasworksref13_Dearest.f dearestS
  simp only [Act_f, in_f, Option.bind_some]
  by_cases h1 : actB a = true
  · rw [if_pos h1, if_pos h1]
    by_cases h2 : withinB r 0 10000 = true
    · rw [if_pos h2, if_pos h2]
      exact Dear_l0 a r h1 100001 (k + 100002) (Nat.le_refl _) (by omega)
    · rw [if_neg h2, if_neg h2]
  · rw [if_neg h1, if_neg h1]
end Go.Proofs.Ytnammdkpejocmaa.Print
