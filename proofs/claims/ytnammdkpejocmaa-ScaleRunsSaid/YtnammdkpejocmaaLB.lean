/- The document's answers: the payments of the years. -/
import Derived.Test.YtnammdkpejocmaaLA
import Derived.Test.YtnammdkpejocmaaPrint6
import Derived.Test.YtnammdkpejocmaaSI
import Derived.Test.YtnammdkpejocmaaLX
import Derived.Test.YtnammdkpejocmaaPrint7
import Derived.Test.YtnammdkpejocmaaPrint8
import Derived.Test.YtnammdkpejocmaaPrint9
namespace Go.Proofs.Ytnammdkpejocmaa.Print
open Go.RowKit Go.Proofs.YtnammdkpejocmaaW.PrintWords Go.Proofs.YtnammdkpejocmaaW.PrintLast Go.Proofs.YtnammdkpejocmaaW.PrintMore
set_option linter.unusedVariables false
set_option linter.unusedSimpArgs false

theorem rd_append {l r : List Int} {x : Int} : rd (l ++ x :: r) (l.length : Int) = x := by simp [rd, List.getD_eq_getElem?_getD]
theorem rd47_append {l r : List S47} {x : S47} : rd_T47 (l ++ x :: r) (l.length : Int) = x := by simp [rd_T47, List.getD_eq_getElem?_getD]
/-! ### errors -/
theorem errors_l0 : ∀ (s p : List S47) (k : Nat), (p ++ s).length < 1000 → s.length < k → gasworksref13_errors.l0 k (p ++ s) (p.length : Int) = some (if s.any badY = true then 2 else 0)
  | [], p, k + 1, hl, _ => by
    unfold gasworksref13_errors.l0
    rw [if_neg (by simp)]
    rfl
  | y :: s, p, k + 1, hl, hk => by
    simp only [List.length_cons] at hk
    have hl2 := hl
    simp only [List.length_append, List.length_cons] at hl2
    unfold gasworksref13_errors.l0
    rw [if_pos (by simp only [List.length_append, List.length_cons]; omega), if_pos (by omega), rd47_append, Year_f, Option.bind_some]
    cases hy : badY y
    · have ih := errors_l0 s (p ++ [y]) k (by simpa using hl) (by omega)
      rw [List.append_assoc, List.singleton_append, List.length_append, List.length_singleton] at ih
      rw [if_pos (by rfl), w64 (by omega) (by omega), show (p.length : Int) + 1 = ((p.length + 1 : Nat) : Int) by omega, ih, List.any_cons, hy, Bool.false_or]
    · rw [if_neg (by simp), List.any_cons, hy, Bool.true_or, if_pos rfl]
theorem errors_fk (k : Nat) (a : S23) (l : List S47) : gasworksref13_errors.f (k + 20) a.f0 a.f1 a.f2 a.f3 a.f4 a.f5 l = some (errY a l) := by
  unfold gasworksref13_errors.f errY
  rw [Act_f, Option.bind_some]
  by_cases h1 : actB a = true
  · rw [if_pos h1, if_pos h1]
    by_cases h2 : 16 < l.length
    · rw [if_pos h2, if_pos (by omega)]
    · rw [if_neg h2, if_neg (by omega)]
      exact errors_l0 l [] (k + 20) (by simp; omega) (by omega)
  · rw [if_neg h1, if_neg h1]
/-! ### sum -/
theorem sum_l0 (B : Int) (hB : B ≤ 1099511627776) : ∀ (s p : List Int) (k : Nat) (z : Int), (p ++ s).length ≤ 100 → s.length < k → (∀ x ∈ s, 0 ≤ x ∧ x ≤ B) → 0 ≤ z → z + s.length * B ≤ 109951162777600 * 2 → gasworksref13_sum.l0 k (p ++ s) z (p.length : Int) = some (z + sumI s)
  | [], p, k + 1, z, hl, _, _, _, _ => by
    unfold gasworksref13_sum.l0
    rw [if_neg (by simp)]
    simp [sumI]
  | y :: s, p, k + 1, z, hl, hk, hs, hz, hzb => by
    simp only [List.length_cons] at hk hzb
    have hl2 := hl
    simp only [List.length_append, List.length_cons] at hl2
    have hy := hs y (by simp)
    have hzb2 : (s.length + 1 : Nat) * B = s.length * B + B := by rw [Int.natCast_add, Int.add_mul]; simp
    rw [hzb2] at hzb
    have hnn : 0 ≤ (s.length : Int) * B := Int.mul_nonneg (by omega) (by omega)
    have ih := sum_l0 B hB s (p ++ [y]) k (z + y) (by simpa using hl) (by omega) (fun x hx => hs x (by simp [hx])) (by omega) (by omega)
    rw [List.append_assoc, List.singleton_append, List.length_append, List.length_singleton] at ih
    unfold gasworksref13_sum.l0
    rw [if_pos (by simp only [List.length_append, List.length_cons]; omega), if_pos (by omega), rd_append, w64 (by omega) (by omega), w64 (by omega) (by omega), show (p.length : Int) + 1 = ((p.length + 1 : Nat) : Int) by omega, ih]
    simp only [sumI]
    congr 1
    omega
theorem sum_fk (k : Nat) (l : List Int) (hl : l.length ≤ 30) (hb : ∀ x ∈ l, 0 ≤ x ∧ x ≤ 1099511627776) : gasworksref13_sum.f (k + 40) l = some (sumI l) := by
  have h := sum_l0 1099511627776 (Int.le_refl _) l [] (k + 40) 0 (by simp; omega) (by omega) hb (Int.le_refl _) (by omega)
  rw [Int.zero_add] at h
  exact h
/-! ### A year -/
theorem year_l1 (a : S23) (ha : actB a = true) (x9 : Int) (q0 q1 q2 q3 q4 q5 : Int) (h9 : -109951162777600 ≤ x9 ∧ x9 ≤ 109951162777600) : ∀ (k : Nat) (x : List Int), x.length < k → x.length ≤ 30 → (∀ y ∈ x, 0 ≤ y ∧ y ≤ 1099511627776) →
    gasworksref13_year.l1 (k + 41) x9 x a.f0 a.f1 a.f2 a.f3 a.f4 a.f5 q0 q1 q2 q3 q4 q5 = some (q0, q1, q2, sumI (x.drop (mx 0 ((x.length : Int) - a.f5)).toNat), x9 - mx 0 (x9 - a.f4), mx 0 (x9 - a.f4), x9 - mx 0 (x9 - a.f4), x.drop (mx 0 ((x.length : Int) - a.f5)).toNat)
  | k + 1, x, hk, hl, hx => by
    obtain ⟨_, _, _, _, _, _, _, _, a8, a9, a10, a11⟩ := act_of ha
    rw [show k + 1 + 41 = (k + 41) + 1 by omega]
    unfold gasworksref13_year.l1
    by_cases h : (x.length : Int) > a.f5
    · rw [if_pos h]
      match x, hk, hl, hx, h with
      | [], hk, hl, hx, h => simp at h; omega
      | y :: x, hk, hl, hx, h =>
        simp only [List.length_cons] at hk hl h
        have ih := year_l1 a ha x9 q0 q1 q2 q3 q4 q5 h9 k x (by omega) (by omega) (fun z hz => hx z (by simp [hz]))
        have e : (mx 0 (((y :: x).length : Int) - a.f5)).toNat = (mx 0 ((x.length : Int) - a.f5)).toNat + 1 := by
          simp only [List.length_cons]
          unfold mx
          split <;> split <;> omega
        rw [if_pos (by simp only [List.length_cons]; omega), e, List.drop_succ_cons]
        exact ih
    · rw [if_neg h]
      have e : (mx 0 ((x.length : Int) - a.f5)).toNat = 0 := by unfold mx; split <;> omega
      have e1 : wrap64 (x9 - a.f4) = x9 - a.f4 := w64 (by omega) (by omega)
      have e2 : wrap64 (x9 - mx 0 (x9 - a.f4)) = x9 - mx 0 (x9 - a.f4) := by
        unfold mx
        split
        · exact w64 (by omega) (by omega)
        · exact w64 (by omega) (by omega)
      rw [show k + 41 = (k + 1) + 40 by omega, sum_fk _ x hl hx, Option.bind_some, e, List.drop_zero, e1, e2]
theorem year_l0 (a : S23) (ha : actB a = true) (x9 x11 : Int) (b q0 q1 q2 q3 q4 q5 : Int) (h9 : -109951162777600 ≤ x9 ∧ x9 ≤ 109951162777600) (hx11 : 0 ≤ x11 ∧ x11 ≤ 1099511627776) : ∀ (s p : List Int) (k : Nat) (z : Int) (x : List Int), (p ++ s).length ≤ 6 → x.length = p.length → s.length < k → (∀ y ∈ s, 0 ≤ y ∧ y ≤ 1099511627776) → (∀ y ∈ x, 0 ≤ y ∧ y ≤ 1099511627776) → 0 ≤ z → z ≤ 109951162777600 →
    gasworksref13_year.l0 (k + 60) x9 z x11 x (p.length : Int) a.f0 a.f1 a.f2 a.f3 a.f4 a.f5 b (p ++ s) q0 q1 q2 q3 q4 q5 =
      some (q0, q1, q2, sumI ((x ++ payL s z ++ [x11]).drop (mx 0 (((p ++ s).length : Int) + 1 - a.f5)).toNat), x9 - mx 0 (x9 - a.f4), mx 0 (x9 - a.f4), x9 - mx 0 (x9 - a.f4), (x ++ payL s z ++ [x11]).drop (mx 0 (((p ++ s).length : Int) + 1 - a.f5)).toNat)
  | [], p, k + 1, z, x, hl, hx, hk, _, hxb, hz, hz2 => by
    rw [show k + 1 + 60 = (k + 60) + 1 by omega]
    unfold gasworksref13_year.l0
    simp only [List.append_nil] at hl ⊢
    rw [if_neg (by omega), if_pos (by omega), show k + 60 = (k + 19) + 41 by omega]
    have h := year_l1 a ha x9 q0 q1 q2 q3 q4 q5 h9 (k + 19) (x ++ [x11]) (by simp; omega) (by simp; omega) (fun y hy => by
      rcases List.mem_append.1 hy with h | h
      · exact hxb y h
      · obtain rfl := List.mem_singleton.1 h
        exact hx11)
    rw [h]
    simp only [payL, List.append_nil, List.length_append, List.length_singleton, hx, Int.natCast_add, Int.natCast_one]
  | y :: s, p, k + 1, z, x, hl, hx, hk, hs, hxb, hz, hz2 => by
    simp only [List.length_cons] at hk
    have hl2 := hl
    simp only [List.length_append, List.length_cons] at hl2
    have hy := hs y (by simp)
    have m : 0 ≤ mn z y ∧ mn z y ≤ z ∧ mn z y ≤ y := by unfold mn; split <;> omega
    have ih := year_l0 a ha x9 x11 b q0 q1 q2 q3 q4 q5 h9 hx11 s (p ++ [y]) k (z - mn z y) (x ++ [y - mn z y]) (by simpa using hl) (by simp [hx]) (by omega) (fun t ht => hs t (by simp [ht])) (fun t ht => by
      rcases List.mem_append.1 ht with h | h
      · exact hxb t h
      · obtain rfl := List.mem_singleton.1 h
        omega) (by omega) (by omega)
    simp only [List.append_assoc, List.singleton_append, List.length_append, List.length_singleton] at ih
    rw [show k + 1 + 60 = (k + 60) + 1 by omega]
    unfold gasworksref13_year.l0
    rw [if_pos (by simp only [List.length_append, List.length_cons]; omega), if_pos (by omega), if_pos (by omega), rd_append, w64 (by omega) (by omega), w64 (by omega) (by omega), w64 (by omega) (by omega), show (p.length : Int) + 1 = ((p.length + 1 : Nat) : Int) by omega, ih]
    simp only [payL, List.append_assoc, List.cons_append, List.length_append, List.length_cons]
theorem tdiv_due {x : Int} (h : 0 ≤ x) : x.tdiv 10000 = x / 10000 := Int.tdiv_eq_ediv_of_nonneg h
theorem year_fk (k : Nat) (a : S23) (ha : actB a = true) (b : Int) (r : List Int) (y : S47) (hy : badY y = false) (hr : ∀ x ∈ r, 0 ≤ x ∧ x ≤ 1099511627776) (hl : r.length ≤ 5) (hb : -32985348833280 ≤ b ∧ b ≤ 32985348833280) :
    gasworksref13_year.f (k + 70) a.f0 a.f1 a.f2 a.f3 a.f4 a.f5 b r y.f0 y.f1 y.f2 =
      some ((yearP a b r y).p.f0, (yearP a b r y).p.f1, (yearP a b r y).p.f2, (yearP a b r y).p.f3, (yearP a b r y).p.f4, (yearP a b r y).p.f5, (yearP a b r y).bal, (yearP a b r y).arr) := by
  obtain ⟨y0, y1, y2, y3, y4, y5⟩ := year_of hy
  obtain ⟨d0, d1, d2, d3⟩ := due_bounds (a := a) y2 y3
  have hsb := sumI_bounds 1099511627776 r hr
  unfold gasworksref13_year.f
  rw [rrate_f a y.f0 ha y0 y1, Option.bind_some, show k + 70 = (k + 30) + 40 by omega, sum_fk _ r (by omega) hr, Option.bind_some]
  have e1 : wrap64 (y.f1 * rateP a y.f0) = y.f1 * rateP a y.f0 := w64 (by omega) (by omega)
  have e2 : wrap64 (y.f1 * rateP a y.f0 / 10000) = dueP a y := by
    have : y.f1 * rateP a y.f0 / 10000 = dueP a y := rfl
    rw [this]; exact w64 (by omega) (by omega)
  rw [e1, tdiv_due d0, e2]
  have hln : (r.length : Int) * 1099511627776 ≤ 5 * 1099511627776 := by omega
  have e3 : wrap64 (dueP a y + sumI r) = dueP a y + sumI r := w64 (by omega) (by omega)
  have e4 : wrap64 (b + y.f2) = b + y.f2 := w64 (by omega) (by omega)
  rw [e3, e4]
  have hp : 0 ≤ mx 0 (mn (dueP a y + sumI r) (b + y.f2)) ∧ mx 0 (mn (dueP a y + sumI r) (b + y.f2)) ≤ dueP a y + sumI r := by unfold mx mn; split <;> split <;> omega
  have hrfl : yearP a b r y = ⟨⟨rateP a y.f0, dueP a y, mx 0 (mn (dueP a y + sumI r) (b + y.f2)), sumI (settleL a.f5 r (dueP a y) (mx 0 (mn (dueP a y + sumI r) (b + y.f2)))), (b + y.f2 - mx 0 (mn (dueP a y + sumI r) (b + y.f2))) - mx 0 ((b + y.f2 - mx 0 (mn (dueP a y + sumI r) (b + y.f2))) - a.f4), mx 0 ((b + y.f2 - mx 0 (mn (dueP a y + sumI r) (b + y.f2))) - a.f4)⟩, (b + y.f2 - mx 0 (mn (dueP a y + sumI r) (b + y.f2))) - mx 0 ((b + y.f2 - mx 0 (mn (dueP a y + sumI r) (b + y.f2))) - a.f4), settleL a.f5 r (dueP a y) (mx 0 (mn (dueP a y + sumI r) (b + y.f2)))⟩ := rfl
  rw [hrfl]
  generalize mx 0 (mn (dueP a y + sumI r) (b + y.f2)) = paid at hp ⊢
  generalize dueP a y = due at d2 d3 hp ⊢
  have m1 : paid - mn paid due = mx 0 (paid - due) := by unfold mx mn; split <;> split <;> omega
  have m2 : due - mn paid due = mx 0 (due - paid) := by unfold mx mn; split <;> split <;> omega
  have e5 : wrap64 (b + y.f2 - paid) = b + y.f2 - paid := w64 (by omega) (by omega)
  have e6 : wrap64 (paid - mn paid due) = mx 0 (paid - due) := by rw [m1]; unfold mx; split <;> exact w64 (by omega) (by omega)
  have e7 : wrap64 (due - mn paid due) = mx 0 (due - paid) := by rw [m2]; unfold mx; split <;> exact w64 (by omega) (by omega)
  rw [e5, e6, e7]
  have h := year_l0 a ha (b + y.f2 - paid) (mx 0 (due - paid)) b (rateP a y.f0) due paid 0 0 0 (by omega) (by unfold mx; split <;> omega) r [] (k + 10) (mx 0 (paid - due)) [] (by simp; omega) rfl (by omega) hr (by simp) (by unfold mx; split <;> omega) (by unfold mx; split <;> omega)
  simp only [List.nil_append, List.length_nil, Int.natCast_zero] at h
  rw [show k + 30 + 40 = (k + 10) + 60 by omega]
  exact h
end Go.Proofs.Ytnammdkpejocmaa.Print

namespace Go.Proofs.Ytnammdkpejocmaa.Print
open Go.RowKit Go.Proofs.YtnammdkpejocmaaW.PrintWords Go.Proofs.YtnammdkpejocmaaW.PrintLast Go.Proofs.YtnammdkpejocmaaW.PrintMore
set_option linter.unusedVariables false
set_option linter.unusedSimpArgs false

theorem any_cons_false {y : S47} {s : List S47} (h : (y :: s).any badY = false) : badY y = false ∧ s.any badY = false := by
  rw [List.any_cons, Bool.or_eq_false_iff] at h
  exact h
theorem Run_l0 (a : S23) (ha : actB a = true) : ∀ (s p : List S47) (k : Nat) (b : Int) (r : List Int) (R : List S45), (p ++ s).length ≤ 16 → s.length < k → s.any badY = false → (∀ x ∈ r, 0 ≤ x ∧ x ≤ 1099511627776) → r.length ≤ 5 → R.length = p.length → -((p.length : Int) * 1099511627776) ≤ b ∧ b ≤ (p.length : Int) * 1099511627776 →
    gasworksref13_Run.l0 (k + 70) (p ++ s) R (p.length : Int) a.f0 a.f1 a.f2 a.f3 a.f4 a.f5 b r = some (R ++ runP a b r s, 0) := by
  intro s
  induction s with
  | nil =>
    intro p k b r R hl hk hs hr hr5 hR hb
    obtain ⟨k, rfl⟩ : ∃ m, k = m + 1 := ⟨k - 1, by simp at hk; omega⟩
    rw [show k + 1 + 70 = (k + 70) + 1 by omega]
    unfold gasworksref13_Run.l0
    rw [if_neg (by simp)]
    simp [runP]
  | cons y s ih0 =>
    intro p k b r R hl hk hs hr hr5 hR hb
    simp only [List.length_cons] at hk
    obtain ⟨k, rfl⟩ : ∃ m, k = m + 1 := ⟨k - 1, by omega⟩
    have hl2 := hl
    simp only [List.length_append, List.length_cons] at hl2
    obtain ⟨hy, hs2⟩ := any_cons_false hs
    obtain ⟨k1, k2, k3, k4⟩ := year_keeps a b r y (p.length : Int) ha hy hr hb
    have ih := ih0 (p ++ [y]) k (yearP a b r y).bal (yearP a b r y).arr (R ++ [(yearP a b r y).p]) (by simpa using hl) (by omega) hs2 k1 k2 (by simp [hR]) (by simp only [List.length_append, List.length_singleton, Int.natCast_add, Int.natCast_one]; exact ⟨k3, k4⟩)
    simp only [List.append_assoc, List.singleton_append, List.length_append, List.length_singleton] at ih
    rw [show k + 1 + 70 = (k + 70) + 1 by omega]
    unfold gasworksref13_Run.l0
    rw [if_pos (by simp only [List.length_append, List.length_cons]; omega), if_pos (by omega), rd47_append, year_fk k a ha b r y hy hr hr5 (by omega), Option.bind_some, if_pos (by omega), w64 (by omega) (by omega), show (p.length : Int) + 1 = ((p.length + 1 : Nat) : Int) by omega]
    exact ih
theorem RRun_fk (k : Nat) (a : S23) (l : List S47) : gasworksref13_Run.f (k + 100) a.f0 a.f1 a.f2 a.f3 a.f4 a.f5 l = some (runS a l) := by
  unfold gasworksref13_Run.f runS
  rw [show k + 100 = (k + 80) + 20 by omega, errors_fk, Option.bind_some]
  by_cases he : errY a l = 0
  · rw [if_pos he, if_pos he]
    obtain ⟨ha, h16, hbad⟩ := err_fine he
    have h := Run_l0 a ha l [] (k + 30) 0 [] [] (by simpa using h16) (by omega) hbad (by simp) (by simp) rfl (by simp)
    simp only [List.nil_append, List.length_nil, Int.natCast_zero] at h
    rw [show k + 80 + 20 = (k + 30) + 70 by omega]
    exact h
  · rw [if_neg he, if_neg he]
/-! ### Check -/
theorem Check_l0 : ∀ (s q R Q : List S45) (k : Nat), Q.length = q.length → (q ++ s).length < 1000000 → 2 * s.length < k → gasworksref13_Check.l0 k (q ++ s) (Q ++ R) (q.length : Int) = some (checkL q.length R s)
  | [], q, R, Q, k + 1, hQ, hl, hk => by
    unfold gasworksref13_Check.l0
    rw [if_neg (by simp)]
    cases R with
    | nil =>
      rw [if_neg (by simp; omega)]
      simp [checkL, hQ]
    | cons x R =>
      rw [if_pos (by simp; omega)]
      simp [checkL]
  | y :: s, q, [], Q, k + 2, hQ, hl, hk => by
    unfold gasworksref13_Check.l0
    rw [if_pos (by simp only [List.length_append, List.length_cons]; omega), if_pos (by simp; omega)]
    unfold gasworksref13_Check.j1
    rw [if_pos rfl]
    simp [checkL]
  | y :: s, q, x :: R, Q, k + 2, hQ, hl, hk => by
    simp only [List.length_cons] at hk
    have hl2 := hl
    simp only [List.length_append, List.length_cons] at hl2
    have ih := Check_l0 s (q ++ [y]) R (Q ++ [x]) k (by simp [hQ]) (by simpa using hl) (by omega)
    simp only [List.append_assoc, List.singleton_append, List.length_append, List.length_singleton] at ih
    have e2 : rd_T45 (Q ++ x :: R) (q.length : Int) = x := by rw [← hQ]; exact rd45_append
    unfold gasworksref13_Check.l0
    rw [if_pos (by simp only [List.length_append, List.length_cons]; omega), if_neg (by simp only [List.length_append, List.length_cons]; omega), if_pos (by omega), if_pos (by simp only [List.length_append, List.length_cons]; omega), rd45_append, e2, ne45]
    unfold gasworksref13_Check.j1
    simp only [checkL]
    by_cases h : eq45 y x = true
    · rw [if_neg (by rw [h]; simp), if_pos h, w64 (by omega) (by omega), show (q.length : Int) + 1 = ((q.length + 1 : Nat) : Int) by omega]
      exact ih
    · have h' : eq45 y x = false := by simpa using h
      rw [if_pos (by rw [h']; rfl), if_neg h]
theorem RCheck_fk (k : Nat) (a : S23) (l : List S47) (p : List S45) (hp : p.length ≤ 60) : gasworksref13_Check.f (k + 200) a.f0 a.f1 a.f2 a.f3 a.f4 a.f5 l p = some (checkS a l p) := by
  unfold gasworksref13_Check.f checkS
  rw [show k + 200 = (k + 100) + 100 by omega, RRun_fk, Option.bind_some]
  unfold runS
  by_cases he : errY a l = 0
  · rw [if_pos he, if_pos he, if_pos rfl]
    have h := Check_l0 p [] (runP a 0 [] l) [] (k + 100 + 100) rfl (by simp; omega) (by omega)
    exact h
  · rw [if_neg he, if_neg he]
    simp only []
    rw [if_neg he]
/-! ### Needed -/
theorem Needed_l0 (a : S23) (ha : actB a = true) (l : List S47) (h16 : l.length ≤ 16) (hbad : l.any badY = false) (n : Nat) (hn : n < l.length) : ∀ (d i k : Nat), i + d = n → d < k →
    gasworksref13_Needed.l0 (k + 80) l (n : Int) (i : Int) a.f0 a.f1 a.f2 a.f3 a.f4 a.f5 (endP a 0 [] (l.take i)).1 (endP a 0 [] (l.take i)).2 = some (needK a l n)
  | 0, i, k + 1, hi, hk => by
    obtain rfl : i = n := by omega
    obtain ⟨e1, e2, e3, e4⟩ := end_keeps a l ha hbad i (by omega)
    have hy : badY (rd_T47 l i) = false := by
      rw [rd_T47_eq l i hn]
      have := List.any_eq_false.1 hbad (l[i]'hn) (List.getElem_mem _)
      simpa using this
    obtain ⟨y0, y1, y2, y3, y4, y5⟩ := year_of hy
    obtain ⟨d0, d1, d2, d3⟩ := due_bounds (a := a) y2 y3
    have hsb := sumI_bounds 1099511627776 _ e1
    have hln : ((endP a 0 [] (l.take i)).2.length : Int) * 1099511627776 ≤ 5 * 1099511627776 := by omega
    rw [show k + 1 + 80 = (k + 80) + 1 by omega]
    unfold gasworksref13_Needed.l0 needK
    rw [if_neg (by omega), if_pos (by omega), if_pos (by omega), rrate_f a _ ha y0 y1, Option.bind_some, show k + 80 = (k + 40) + 40 by omega, sum_fk _ _ (by omega) e1, Option.bind_some]
    have w1 : wrap64 ((rd_T47 l i).f1 * rateP a (rd_T47 l i).f0) = (rd_T47 l i).f1 * rateP a (rd_T47 l i).f0 := w64 (by omega) (by omega)
    have w2 : wrap64 ((rd_T47 l i).f1 * rateP a (rd_T47 l i).f0 / 10000) = dueP a (rd_T47 l i) := by
      have : (rd_T47 l i).f1 * rateP a (rd_T47 l i).f0 / 10000 = dueP a (rd_T47 l i) := rfl
      rw [this]; exact w64 (by omega) (by omega)
    rw [w1, tdiv_due d0, w2]
    generalize dueP a (rd_T47 l i) = due at d2 d3 ⊢
    generalize sumI (endP a 0 [] (l.take i)).2 = sm at hsb ⊢
    generalize (endP a 0 [] (l.take i)).1 = bal at e3 e4 ⊢
    have w3 : wrap64 (due + sm) = due + sm := w64 (by omega) (by omega)
    have w4 : wrap64 (due + sm - bal) = due + sm - bal := w64 (by omega) (by omega)
    rw [w3, w4]
    by_cases hz : due + sm = 0
    · rw [if_pos hz, if_pos hz]
    · rw [if_neg hz, if_neg hz]
  | d + 1, i, k + 1, hi, hk => by
    obtain ⟨e1, e2, e3, e4⟩ := end_keeps a l ha hbad i (by omega)
    have hil : i < l.length := by omega
    have hy : badY (rd_T47 l i) = false := by
      rw [rd_T47_eq l i hil]
      have := List.any_eq_false.1 hbad (l[i]'hil) (List.getElem_mem _)
      simpa using this
    have ih := Needed_l0 a ha l h16 hbad n hn d (i + 1) k (by omega) (by omega)
    rw [endP_take a l i hil] at ih
    rw [show k + 1 + 80 = (k + 80) + 1 by omega]
    unfold gasworksref13_Needed.l0
    rw [if_pos (by omega), if_pos (by omega), if_pos (by omega), show k + 80 = (k + 10) + 70 by omega, year_fk _ a ha _ _ _ hy e1 e2 (by omega), Option.bind_some, w64 (by omega) (by omega), show (i : Int) + 1 = ((i + 1 : Nat) : Int) by omega, show (k + 10) + 70 = k + 80 by omega]
    exact ih
theorem RNeeded_fk (k : Nat) (a : S23) (l : List S47) (n : Int) : gasworksref13_Needed.f (k + 200) a.f0 a.f1 a.f2 a.f3 a.f4 a.f5 l n = some (neededS a l n) := by
  unfold gasworksref13_Needed.f neededS
  rw [show k + 200 = (k + 180) + 20 by omega, errors_fk, Option.bind_some]
  by_cases he : errY a l = 0
  · obtain ⟨ha, h16, hbad⟩ := err_fine he
    rw [if_pos he, if_pos he, in_f, Option.bind_some, w64 (by omega) (by omega)]
    by_cases hk : withinB n 0 ((l.length : Int) - 1) = true
    · rw [if_pos hk, if_pos hk]
      simp only [withinB, decide_eq_true_eq] at hk
      obtain ⟨n, rfl⟩ := Int.eq_ofNat_of_zero_le hk.1
      have h := Needed_l0 a ha l h16 hbad n (by omega) n 0 (k + 120) (by omega) (by omega)
      simp only [List.take_zero, Int.natCast_zero] at h
      rw [show k + 180 + 20 = (k + 120) + 80 by omega]
      exact h
    · rw [if_neg hk, if_neg hk]
  · rw [if_neg he, if_neg he]
end Go.Proofs.Ytnammdkpejocmaa.Print
