/- The law ScaleCheaper, in plain Lean. -/
import Derived.Test.YtnammdkpejocmaaLA
import Derived.Test.YtnammdkpejocmaaQ7
namespace Go.Proofs.Ytnammdkpejocmaa.Print
open Go.RowKit Go.Proofs.YtnammdkpejocmaaW.PrintWords Go.Proofs.YtnammdkpejocmaaW.PrintLast Go.Proofs.YtnammdkpejocmaaW.PrintMore
set_option linter.unusedVariables false
set_option linter.unusedSimpArgs false

theorem countN_spec (a : S23) (r : Int) (ha : actB a = true) : ∀ n : Nat, (∀ i : Nat, i < countN a r n → r ≤ rateP a i) ∧ (countN a r n < n → rateP a (countN a r n) < r)
  | 0 => ⟨fun i h => by simp [countN] at h, fun h => by simp at h⟩
  | n + 1 => by
    obtain ⟨h1, h2⟩ := countN_spec a r ha n
    have hle := countN_le a r n
    rw [countN_succ a r n ha]
    by_cases h : r ≤ rateP a n
    · rw [if_pos h]
      refine ⟨fun i hi => ?_, fun hh => by omega⟩
      have := rate_anti a ha (p := (i : Int)) (q := (n : Int)) (by omega)
      omega
    · rw [if_neg h]
      refine ⟨h1, fun hh => ?_⟩
      by_cases hc : countN a r n < n
      · exact h2 hc
      · have : countN a r n = n := by omega
        rw [this]
        omega
theorem dear_fine (a : S23) (r : Int) (ha : actB a = true) (hr : 0 ≤ r ∧ r ≤ 10000) : (dearestS a r = (0, 4) ∧ ∀ p : Int, 0 ≤ p → p ≤ 100000 → rateP a p < r) ∨ ∃ d : Int, dearestS a r = (d, 0) ∧ 0 ≤ d ∧ d ≤ 100000 ∧ r ≤ rateP a d ∧ (d < 100000 → rateP a (d + 1) < r) := by
  obtain ⟨h1, h2⟩ := countN_spec a r ha 100001
  have hle := countN_le a r 100001
  unfold dearestS dearN
  rw [if_pos ha, if_pos (by simp [withinB, hr])]
  generalize countN a r 100001 = c at *
  by_cases hc : c = 0
  · subst hc
    left
    refine ⟨rfl, fun p hp hp2 => ?_⟩
    have := h2 (by omega)
    have := rate_anti a ha (p := ((0 : Nat) : Int)) (q := p) (by omega)
    omega
  · right
    rw [if_neg hc]
    refine ⟨(c : Int) - 1, rfl, by omega, by omega, ?_, fun h => ?_⟩
    · have := h1 (c - 1) (by omega)
      rwa [show ((c - 1 : Nat) : Int) = (c : Int) - 1 by omega] at this
    · rw [show (c : Int) - 1 + 1 = c by omega]
      exact h2 (by omega)
theorem rate_step (a : S23) (ha : actB a = true) (p : Int) : rateP a p ≤ rateP a (p - a.f2) ∧ rateP a (p - a.f2) ≤ rateP a p + a.f3 ∧ (0 < rateP a p → rateP a (p - a.f2) < 10000 → rateP a (p - a.f2) = rateP a p + a.f3) := by
  obtain ⟨_, _, a2, _, _, _, a6, _⟩ := act_of ha
  have e : (a.f0 - (p - a.f2)) / a.f2 = (a.f0 - p) / a.f2 + 1 := by
    rw [show a.f0 - (p - a.f2) = a.f0 - p + 1 * a.f2 by omega, Int.add_mul_ediv_right _ _ (by omega)]
  unfold rateP
  rw [e, Int.mul_add, Int.mul_one]
  generalize a.f3 * ((a.f0 - p) / a.f2) = x
  omega
theorem rate_own (a : S23) (ha : actB a = true) : rateP a a.f0 = a.f1 := by
  obtain ⟨_, _, a2, _, a4, a5, a6, _⟩ := act_of ha
  unfold rateP
  rw [Int.sub_self, Int.zero_ediv, Int.mul_zero]
  omega
theorem rateS_fine {a : S23} {p : Int} (ha : actB a = true) (h0 : 0 ≤ p) (h1 : p ≤ 100000) : rateS a p = (rateP a p, 0) := by
  unfold rateS
  rw [if_pos ha, if_pos (by simp [withinB, h0, h1])]
theorem Rate_s (a : S23) (p : Int) : scale_Rate.f a.f0 a.f1 a.f2 a.f3 a.f4 a.f5 p = some (rateS a p) := rfl
theorem Dear_s (a : S23) (r : Int) : scale_Dearest.f a.f0 a.f1 a.f2 a.f3 a.f4 a.f5 r = some (dearestS a r) := rfl
theorem alive_s : gasworkslaw13_alive.f = some true := rfl
theorem cheap_j5 (k : Nat) (a : S23) (ha : actB a = true) (p d : Int) (hp : 0 ≤ p ∧ p ≤ 100000) (hd : dearestS a (rateP a p) = (d, 0)) : gasworkslaw13_ScaleCheaper.j5 (k + 1) p (rateP a p) d false a.f0 a.f1 a.f2 a.f3 a.f4 a.f5 = some true := by
  obtain ⟨n0, n1⟩ := rate_bounds a p
  rw [gasworkslaw13_ScaleCheaper.j5, if_neg (by simp), w64 (by omega) (by omega), Dear_s, Option.bind_some, alive_s]
  by_cases hm : rateP a p = 10000
  · have e : mn 10000 (rateP a p + 1) = rateP a p := by unfold mn; split <;> omega
    rw [e, hd, if_pos hm, if_pos rfl, if_pos rfl]
    rfl
  · have e : mn 10000 (rateP a p + 1) = rateP a p + 1 := by unfold mn; split <;> omega
    rw [e, if_neg hm]
    rcases dear_fine a (rateP a p + 1) ha (by omega) with ⟨h, _⟩ | ⟨d', h, h0, h1, h2, _⟩
    · rw [h, if_pos rfl, if_pos rfl]
      rfl
    · have h04 : ¬ ((d', (0 : Int)).2 = 4) := by simp
      have hlt : d' < p := by
        by_cases hc : d' < p
        · exact hc
        · have := rate_anti a ha (p := p) (q := d') (by omega)
          omega
      rw [h, if_neg h04, if_pos rfl, if_pos hlt]
      rfl
theorem cheap_j3 (k : Nat) (a : S23) (ha : actB a = true) (p : Int) (hp : 0 ≤ p ∧ p ≤ 100000) : gasworkslaw13_ScaleCheaper.j3 (k + 3) p (rateP a p) a.f0 a.f1 a.f2 a.f3 a.f4 a.f5 = some true := by
  obtain ⟨n0, n1⟩ := rate_bounds a p
  obtain ⟨a0, a1, _⟩ := act_of ha
  rw [gasworkslaw13_ScaleCheaper.j3, Rate_s, Option.bind_some, Dear_s, Option.bind_some, rateS_fine ha a0 a1, if_pos rfl, if_pos (rate_own a ha)]
  rcases dear_fine a (rateP a p) ha ⟨n0, n1⟩ with ⟨h, h1⟩ | ⟨d, h, h0, h1, h2, h3⟩
  · have := h1 p hp.1 hp.2
    omega
  · have hge : ¬ d < p := by
      intro hc
      have := h3 (by omega)
      have := rate_anti a ha (p := d + 1) (q := p) (by omega)
      omega
    have hj5 := cheap_j5 k a ha p d hp h
    rw [h, if_pos rfl]
    dsimp only
    rw [if_neg hge, gasworkslaw13_ScaleCheaper.j4, if_neg (by simp; omega), Rate_s, Option.bind_some, Rate_s, Option.bind_some, rateS_fine ha h0 h1, if_pos rfl, if_neg (by omega), w64 (by omega) (by omega)]
    by_cases hd : d < 100000
    · rw [rateS_fine ha (by omega) (by omega), if_pos rfl, if_neg (by have := h3 hd; omega)]
      exact hj5
    · have hS : rateS a (d + 1) = (0, 2) := by
        unfold rateS
        rw [if_pos ha, if_neg (by simp [withinB]; omega)]
      have hb : (d != 100000) = false := by
        have : d = 100000 := by omega
        simp [this]
      rw [hS, if_neg (by decide), hb]
      exact hj5
theorem cheap_j1 (k : Nat) (a : S23) (ha : actB a = true) (p : Int) (hp : 0 ≤ p ∧ p ≤ 100000) : gasworkslaw13_ScaleCheaper.j1 (k + 5) p (rateP a p) false a.f0 a.f1 a.f2 a.f3 a.f4 a.f5 = some true := by
  obtain ⟨n0, n1⟩ := rate_bounds a p
  obtain ⟨a0, a1, a2, a3, _, _, a6, a7, _⟩ := act_of ha
  rw [gasworkslaw13_ScaleCheaper.j1, if_neg (by simp)]
  by_cases hs : p ≥ a.f2
  · obtain ⟨s1, s2, s3⟩ := rate_step a ha p
    have hj2 : gasworkslaw13_ScaleCheaper.j2 (k + 4) p (rateP a p) false a.f0 a.f1 a.f2 a.f3 a.f4 a.f5 = some true := by
      rw [gasworkslaw13_ScaleCheaper.j2, if_neg (by simp)]
      exact cheap_j3 k a ha p hp
    rw [if_pos hs, w64 (by omega) (by omega), Rate_s, Option.bind_some, rateS_fine ha (by omega) (by omega), if_pos rfl, w64 (by omega) (by omega)]
    simp only []
    rw [if_neg (by omega), if_neg (by omega)]
    by_cases h0 : rateP a p > 0
    · rw [if_pos h0]
      by_cases h1 : rateP a (p - a.f2) < 10000
      · have hb : (rateP a (p - a.f2) != rateP a p + a.f3) = false := by rw [s3 h0 h1]; simp
        rw [if_pos h1, hb]
        exact hj2
      · rw [if_neg h1]
        exact hj2
    · rw [if_neg h0]
      exact hj2
  · rw [if_neg hs]
    exact cheap_j3 (k + 1) a ha p hp
theorem ScaleCheaper_true (a : S23) (p b : Int) (hb : 0 ≤ b ∧ b ≤ 65535) : gasworkslaw13_ScaleCheaper.f 10 a.f0 a.f1 a.f2 a.f3 a.f4 a.f5 p b = some true := by
  unfold gasworkslaw13_ScaleCheaper.f
  rw [Rate_s, Option.bind_some]
  by_cases ha : actB a = true
  · by_cases hw : withinB p 0 100000 = true
    · simp only [withinB, decide_eq_true_eq] at hw
      obtain ⟨n0, n1⟩ := rate_bounds a p
      rw [rateS_fine ha hw.1 hw.2, if_pos rfl, Act_f, Option.bind_some, if_pos ha, if_neg (by omega)]
      show gasworkslaw13_ScaleCheaper.j0 (9 + 1) p b (rateP a p) _ a.f0 a.f1 a.f2 a.f3 a.f4 a.f5 = _
      have e : mx 0 (wrap64 (p - wrap64 b)) = mx 0 (p - b) := by rw [w64 (x := b) (by omega) (by omega), w64 (by omega) (by omega)]
      have eb : 0 ≤ mx 0 (p - b) ∧ mx 0 (p - b) ≤ p := by unfold mx; split <;> omega
      have hm := rate_anti a ha (p := mx 0 (p - b)) (q := p) eb.2
      rw [gasworkslaw13_ScaleCheaper.j0, if_neg (by simp; omega), e, Rate_s, Option.bind_some, rateS_fine ha eb.1 (by omega), if_pos rfl]
      have hd : decide (rateP a (mx 0 (p - b)) < rateP a p) = false := decide_eq_false (by omega)
      rw [hd]
      exact cheap_j1 4 a ha p hw
    · have hS : rateS a p = (0, 2) := by
        unfold rateS
        rw [if_pos ha, if_neg hw]
      rw [hS, if_neg (by decide), if_pos rfl, Act_f, Option.bind_some, ha, if_pos (by decide), alive_s]
      rfl
  · have hS : rateS a p = (0, 1) := by
      unfold rateS
      rw [if_neg ha]
    have ha' : actB a = false := by simpa using ha
    rw [hS, if_neg (by decide), if_pos rfl, Act_f, Option.bind_some, ha', if_pos (by decide), alive_s]
    rfl
theorem u16_of {n : Int} (h : (Lit.int .u16 n).wf = true) : 0 ≤ n ∧ n ≤ 65535 := by
  simp only [Lit.wf, Bool.and_eq_true, decide_eq_true_eq] at h
  have h1 : IntKind.min .u16 = 0 := by decide
  have h2 : IntKind.max .u16 = 65535 := by decide
  rw [h1, h2] at h
  exact h
theorem ScaleCheaper_walk (a : S23) (p b : Int) (w : World) (_ : (Lit.int .i64 p).wf = true) (hb : (Lit.int .u16 b).wf = true) :
    Calls Try.prog 7 #[actV a, .int .i64 p, .int .u16 b] w fun e w' => e = .returned (.bool true) ∧ Below w.heap.size w w' :=
  gasworkslaw13_ScaleCheaper.calls _ _ _ _ _ _ _ _ _ _ w (ScaleCheaper_true a p b (u16_of hb)) rfl
end Go.Proofs.Ytnammdkpejocmaa.Print
