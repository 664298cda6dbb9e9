/- ScaleMore: what more profit in a year does, in plain Lean. -/
import Derived.Test.YtnammdkpejocmaaWA
namespace Go.Proofs.Ytnammdkpejocmaa.Print
open Go.RowKit Go.Proofs.YtnammdkpejocmaaW.PrintWords Go.Proofs.YtnammdkpejocmaaW.PrintLast Go.Proofs.YtnammdkpejocmaaW.PrintMore
set_option linter.unusedVariables false
set_option linter.unusedSimpArgs false

theorem payL_mono : ∀ {r s : List Int} (p p' : Int), LeL r s → (∀ x ∈ r, 0 ≤ x) → (∀ x ∈ s, 0 ≤ x) → 0 ≤ p → p ≤ p' → LeL (payL r p') (payL s p)
  | [], [], _, _, _, _, _, _, _ => trivial
  | x :: r, y :: s, p, p', h, hr, hs, h0, hp => by
    have hx := hr x (by simp)
    have hy := hs y (by simp)
    have hxy := h.1
    refine ⟨?_, payL_mono _ _ h.2 (fun z hz => hr z (by simp [hz])) (fun z hz => hs z (by simp [hz])) ?_ ?_⟩
    · unfold mn; repeat' split
      all_goals omega
    · unfold mn; split <;> omega
    · unfold mn; repeat' split
      all_goals omega
theorem payL_cap : ∀ (r : List Int) (p : Int), (∀ x ∈ r, 0 ≤ x) → 0 ≤ p → payL r (mn (sumI r) p) = payL r p
  | [], _, _, _ => rfl
  | x :: r, p, hr, hp => by
    have hx := hr x (by simp)
    have hr' : ∀ y ∈ r, 0 ≤ y := fun y hy => hr y (by simp [hy])
    have hs := sumI_nn r hr'
    have hm : 0 ≤ p - mn p x := by unfold mn; split <;> omega
    have ih := payL_cap r (p - mn p x) hr' hm
    have e1 : mn (mn (sumI (x :: r)) p) x = mn p x := by simp only [sumI]; unfold mn; repeat' split
                                                         all_goals omega
    have e2 : mn (sumI (x :: r)) p - mn p x = mn (sumI r) (p - mn p x) := by
      simp only [sumI]; unfold mn; repeat' split
      all_goals omega
    simp only [payL, e1, e2, ih]
theorem next_eq (r : List Int) (D b1 : Int) (hr : ∀ x ∈ r, 0 ≤ x) (hD : 0 ≤ D) :
    nextL r D (mx 0 (mn (D + sumI r) b1)) = payL r (mx 0 (b1 - D)) ++ [mx 0 (mn D (D - b1))] := by
  have hs := sumI_nn r hr
  have e1 : mx 0 (mx 0 (mn (D + sumI r) b1) - D) = mn (sumI r) (mx 0 (b1 - D)) := by
    unfold mx mn; repeat' split
    all_goals omega
  have e2 : mx 0 (D - mx 0 (mn (D + sumI r) b1)) = mx 0 (mn D (D - b1)) := by
    unfold mx mn; repeat' split
    all_goals omega
  unfold nextL
  rw [e1, e2, payL_cap r _ hr (by unfold mx; split <;> omega)]
theorem bal_mono (D S S' u u' m : Int) (h0 : 0 ≤ D) (h1 : 0 ≤ S') (h2 : S' ≤ S) (h3 : u ≤ u') :
    u - mx 0 (mn (D + S) u) - mx 0 (u - mx 0 (mn (D + S) u) - m) ≤ u' - mx 0 (mn (D + S') u') - mx 0 (u' - mx 0 (mn (D + S') u') - m) := by
  have h : u - mx 0 (mn (D + S) u) ≤ u' - mx 0 (mn (D + S') u') := by
    unfold mx mn; repeat' split
    all_goals omega
  generalize u - mx 0 (mn (D + S) u) = v at *
  generalize u' - mx 0 (mn (D + S') u') = v' at *
  unfold mx; repeat' split
  all_goals omega
structure MoreY (q q' : YearR) : Prop where
  res : q.p.f4 ≤ q'.p.f4
  arr : q'.p.f3 ≤ q.p.f3
  due : q'.p.f1 = q.p.f1
  bal : q.bal ≤ q'.bal
  le : LeL q'.arr q.arr
theorem more_year (a : S23) (b b' : Int) (r r' : List Int) (y y' : S47) (hy : badY y = false) (ha : actB a = true) (hb : b ≤ b') (hl : LeL r' r) (hr : ∀ x ∈ r, 0 ≤ x) (hr' : ∀ x ∈ r', 0 ≤ x) (h0 : y'.f0 = y.f0) (h1 : y'.f1 = y.f1) (h2 : y.f2 ≤ y'.f2) :
    MoreY (yearP a b r y) (yearP a b' r' y') := by
  obtain ⟨y0, y1, y2, y3, y4, y5⟩ := year_of hy
  obtain ⟨d0, d1, d2, d3⟩ := due_bounds (a := a) y2 y3
  have hD : dueP a y' = dueP a y := by unfold dueP; rw [h0, h1]
  have hs := sumI_nn r hr
  have hs' := sumI_nn r' hr'
  have hss := hl.sum
  have hlen := hl.len
  have harr : LeL (yearP a b' r' y').arr (yearP a b r y).arr := by
    show LeL (settleL a.f5 r' (dueP a y') (mx 0 (mn (dueP a y' + sumI r') (b' + y'.f2)))) (settleL a.f5 r (dueP a y) (mx 0 (mn (dueP a y + sumI r) (b + y.f2))))
    unfold settleL
    rw [hD, next_eq r' _ _ hr' d2, next_eq r _ _ hr d2, hlen]
    refine LeL.drop _ (LeL.append (payL_mono _ _ hl hr' hr ?_ ?_) ?_)
    · unfold mx; split <;> omega
    · unfold mx; repeat' split
      all_goals omega
    · unfold mx mn; repeat' split
      all_goals omega
  refine ⟨?_, harr.sum, hD, ?_, harr⟩
  · show b + y.f2 - mx 0 (mn (dueP a y + sumI r) (b + y.f2)) - mx 0 (b + y.f2 - mx 0 (mn (dueP a y + sumI r) (b + y.f2)) - a.f4) ≤ b' + y'.f2 - mx 0 (mn (dueP a y' + sumI r') (b' + y'.f2)) - mx 0 (b' + y'.f2 - mx 0 (mn (dueP a y' + sumI r') (b' + y'.f2)) - a.f4)
    rw [hD]
    exact bal_mono _ _ _ _ _ _ d2 hs' hss (by omega)
  · show b + y.f2 - mx 0 (mn (dueP a y + sumI r) (b + y.f2)) - mx 0 (b + y.f2 - mx 0 (mn (dueP a y + sumI r) (b + y.f2)) - a.f4) ≤ b' + y'.f2 - mx 0 (mn (dueP a y' + sumI r') (b' + y'.f2)) - mx 0 (b' + y'.f2 - mx 0 (mn (dueP a y' + sumI r') (b' + y'.f2)) - a.f4)
    rw [hD]
    exact bal_mono _ _ _ _ _ _ d2 hs' hss (by omega)
/-! ### The lists -/
def putY (l : List S47) (k : Nat) (n : Int) : List S47 := l.set k ⟨(rd_T47 l k).f0, (rd_T47 l k).f1, n⟩
theorem putY_len (l : List S47) (k : Nat) (n : Int) : (putY l k n).length = l.length := List.length_set ..
theorem putY_rd (l : List S47) (k i : Nat) (n : Int) (hi : i < l.length) : rd_T47 (putY l k n) i = if i = k then ⟨(rd_T47 l k).f0, (rd_T47 l k).f1, n⟩ else rd_T47 l i := by
  rw [rd_T47_eq _ i (by rw [putY_len]; exact hi), rd_T47_eq l i hi]
  unfold putY
  rw [List.getElem_set]
  by_cases h : k = i
  · rw [if_pos h, if_pos h.symm]
  · rw [if_neg h, if_neg (fun e => h e.symm)]
theorem putY_take (l : List S47) (k i : Nat) (n : Int) (hi : i ≤ k) : (putY l k n).take i = l.take i := by
  unfold putY
  rw [List.take_set_of_le hi]
theorem bad_rd {l : List S47} (hl : l.any badY = false) (i : Nat) (hi : i < l.length) : badY (rd_T47 l i) = false := by
  rw [rd_T47_eq l i hi]
  have := List.any_eq_false.1 hl (l[i]'hi) (List.getElem_mem _)
  simpa using this
theorem putY_bad {l : List S47} (hl : l.any badY = false) (k : Nat) (hk : k < l.length) (n : Int) (hn : -1099511627776 ≤ n ∧ n ≤ 1099511627776) : (putY l k n).any badY = false := by
  rw [List.any_eq_false]
  intro x hx
  obtain ⟨i, hi, rfl⟩ := List.getElem_of_mem hx
  rw [putY_len] at hi
  rw [← rd_T47_eq _ i (by rw [putY_len]; exact hi), putY_rd l k i n hi]
  have h1 := bad_rd hl k hk
  have h2 := bad_rd hl i hi
  obtain ⟨y0, y1, y2, y3, y4, y5⟩ := year_of h1
  by_cases h : i = k
  · rw [if_pos h]
    simp only [badY, withinB, Bool.or_eq_true, Bool.not_eq_true', decide_eq_false_iff_not]
    omega
  · rw [if_neg h, h2]
    simp
theorem more_state (a : S23) (l l' : List S47) (ha : actB a = true) (hl : l.any badY = false) (hl' : l'.any badY = false) (hn : l'.length = l.length)
    (h : ∀ i : Nat, i < l.length → (rd_T47 l' i).f0 = (rd_T47 l i).f0 ∧ (rd_T47 l' i).f1 = (rd_T47 l i).f1 ∧ (rd_T47 l i).f2 ≤ (rd_T47 l' i).f2) : ∀ k : Nat, k ≤ l.length → (endP a 0 [] (l.take k)).1 ≤ (endP a 0 [] (l'.take k)).1 ∧ LeL (endP a 0 [] (l'.take k)).2 (endP a 0 [] (l.take k)).2
  | 0, _ => ⟨Int.le_refl _, trivial⟩
  | k + 1, hk => by
    obtain ⟨h1, h2⟩ := more_state a l l' ha hl hl' hn h k (by omega)
    obtain ⟨e1, _⟩ := end_keeps a l ha hl k (by omega)
    obtain ⟨f1, _⟩ := end_keeps a l' ha hl' k (by omega)
    obtain ⟨p0, p1, p2⟩ := h k (by omega)
    have m := more_year a _ _ _ _ (rd_T47 l k) (rd_T47 l' k) (bad_rd hl k (by omega)) ha h1 h2 (fun x hx => (e1 x hx).1) (fun x hx => (f1 x hx).1) p0 p1 p2
    rw [endP_take a l k (by omega), endP_take a l' k (by omega)]
    exact ⟨m.bal, m.le⟩
theorem more_at (a : S23) (l l' : List S47) (ha : actB a = true) (hl : l.any badY = false) (hl' : l'.any badY = false) (hn : l'.length = l.length)
    (h : ∀ i : Nat, i < l.length → (rd_T47 l' i).f0 = (rd_T47 l i).f0 ∧ (rd_T47 l' i).f1 = (rd_T47 l i).f1 ∧ (rd_T47 l i).f2 ≤ (rd_T47 l' i).f2) (k : Nat) (hk : k < l.length) :
    (rd_T45 (runP a 0 [] l) k).f4 ≤ (rd_T45 (runP a 0 [] l') k).f4 ∧ (rd_T45 (runP a 0 [] l') k).f3 ≤ (rd_T45 (runP a 0 [] l) k).f3 ∧ (rd_T45 (runP a 0 [] l') k).f1 = (rd_T45 (runP a 0 [] l) k).f1 := by
  obtain ⟨h1, h2⟩ := more_state a l l' ha hl hl' hn h k (by omega)
  obtain ⟨e1, _⟩ := end_keeps a l ha hl k (by omega)
  obtain ⟨f1, _⟩ := end_keeps a l' ha hl' k (by omega)
  obtain ⟨p0, p1, p2⟩ := h k (by omega)
  have m := more_year a _ _ _ _ (rd_T47 l k) (rd_T47 l' k) (bad_rd hl k (by omega)) ha h1 h2 (fun x hx => (e1 x hx).1) (fun x hx => (f1 x hx).1) p0 p1 p2
  rw [runP_rd a l k hk, runP_rd a l' k (by omega)]
  exact ⟨m.res, m.arr, m.due⟩
/-- The years before make no difference. -/
theorem same_before (a : S23) (l : List S47) (k i : Nat) (n : Int) (hi : i < k) (hk : k < l.length) : rd_T45 (runP a 0 [] (putY l k n)) i = rd_T45 (runP a 0 [] l) i := by
  rw [runP_rd a l i (by omega), runP_rd a _ i (by rw [putY_len]; omega), putY_take l k i n (by omega), putY_rd l k i n (by omega), if_neg (by omega)]
theorem at_k (a : S23) (l : List S47) (k : Nat) (n : Int) (hk : k < l.length) : rd_T45 (runP a 0 [] (putY l k n)) k = (yearP a (endP a 0 [] (l.take k)).1 (endP a 0 [] (l.take k)).2 ⟨(rd_T47 l k).f0, (rd_T47 l k).f1, n⟩).p := by
  rw [runP_rd a _ k (by rw [putY_len]; omega), putY_take l k k n (by omega), putY_rd l k k n hk, if_pos rfl]
theorem more_paid (a : S23) (l : List S47) (k : Nat) (n : Int) (hk : k < l.length) (hn : (rd_T47 l k).f2 ≤ n) :
    (rd_T45 (runP a 0 [] l) k).f2 ≤ (rd_T45 (runP a 0 [] (putY l k n)) k).f2 ∧ (rd_T45 (runP a 0 [] l) k).f5 ≤ (rd_T45 (runP a 0 [] (putY l k n)) k).f5 := by
  rw [at_k a l k n hk, runP_rd a l k hk]
  generalize (endP a 0 [] (l.take k)).1 = b
  generalize (endP a 0 [] (l.take k)).2 = r
  generalize rd_T47 l k = y at *
  constructor
  · show mx 0 (mn (dueP a y + sumI r) (b + y.f2)) ≤ mx 0 (mn (dueP a y + sumI r) (b + n))
    unfold mx mn; repeat' split
    all_goals omega
  · show mx 0 (b + y.f2 - mx 0 (mn (dueP a y + sumI r) (b + y.f2)) - a.f4) ≤ mx 0 (b + n - mx 0 (mn (dueP a y + sumI r) (b + n)) - a.f4)
    have h : b + y.f2 - mx 0 (mn (dueP a y + sumI r) (b + y.f2)) ≤ b + n - mx 0 (mn (dueP a y + sumI r) (b + n)) := by
      unfold mx mn; repeat' split
      all_goals omega
    generalize b + y.f2 - mx 0 (mn (dueP a y + sumI r) (b + y.f2)) = u at h ⊢
    generalize b + n - mx 0 (mn (dueP a y + sumI r) (b + n)) = v at h ⊢
    unfold mx; repeat' split
    all_goals omega
/-! ### What is needed -/
def owedK (a : S23) (l : List S47) (k : Nat) : Int := dueP a (rd_T47 l k) + sumI (endP a 0 [] (l.take k)).2
theorem enough_at (a : S23) (l : List S47) (k : Nat) (hk : k < l.length) (ha : actB a = true) (hl : l.any badY = false) :
    (rd_T45 (runP a 0 [] (putY l k (owedK a l k - (endP a 0 [] (l.take k)).1))) k).f2 = owedK a l k ∧ (rd_T45 (runP a 0 [] (putY l k (owedK a l k - (endP a 0 [] (l.take k)).1))) k).f3 = 0 ∧ (rd_T45 (runP a 0 [] (putY l k (owedK a l k - (endP a 0 [] (l.take k)).1))) k).f5 = 0 := by
  rw [at_k a l k _ hk]
  obtain ⟨e1, _⟩ := end_keeps a l ha hl k (by omega)
  obtain ⟨y0, y1, y2, y3, y4, y5⟩ := year_of (bad_rd hl k hk)
  obtain ⟨d0, d1, d2, d3⟩ := due_bounds (a := a) y2 y3
  obtain ⟨_, _, _, _, _, _, _, _, a4, _, _, _⟩ := act_of ha
  unfold owedK
  generalize (endP a 0 [] (l.take k)).1 = b at *
  generalize (endP a 0 [] (l.take k)).2 = r at *
  have hs := sumI_nn r (fun x hx => (e1 x hx).1)
  have hD : ∀ n, dueP a ⟨(rd_T47 l k).f0, (rd_T47 l k).f1, n⟩ = dueP a (rd_T47 l k) := fun n => rfl
  have hp : mx 0 (mn (dueP a (rd_T47 l k) + sumI r) (b + (dueP a (rd_T47 l k) + sumI r - b))) = dueP a (rd_T47 l k) + sumI r := by
    unfold mx mn; repeat' split
    all_goals omega
  refine ⟨hp, ?_, ?_⟩
  · show sumI (settleL a.f5 r (dueP a (rd_T47 l k)) (mx 0 (mn (dueP a (rd_T47 l k) + sumI r) (b + (dueP a (rd_T47 l k) + sumI r - b))))) = 0
    rw [hp]
    have h1 := nextL_sum r (dueP a (rd_T47 l k)) (dueP a (rd_T47 l k) + sumI r) (fun x hx => (e1 x hx).1) d2 (by omega) (by omega)
    have h2 := nextL_nn r (dueP a (rd_T47 l k)) (dueP a (rd_T47 l k) + sumI r) (fun x hx => (e1 x hx).1)
    have h3 := sumI_drop (nextL r (dueP a (rd_T47 l k)) (dueP a (rd_T47 l k) + sumI r)) (mx 0 ((r.length : Int) + 1 - a.f5)).toNat h2
    have h4 : 0 ≤ sumI (settleL a.f5 r (dueP a (rd_T47 l k)) (dueP a (rd_T47 l k) + sumI r)) := sumI_nn _ (fun x hx => h2 x (List.mem_of_mem_drop hx))
    unfold settleL at h4 ⊢
    omega
  · show mx 0 (b + (dueP a (rd_T47 l k) + sumI r - b) - mx 0 (mn (dueP a (rd_T47 l k) + sumI r) (b + (dueP a (rd_T47 l k) + sumI r - b))) - a.f4) = 0
    rw [hp]
    unfold mx; split <;> omega
theorem short_at (a : S23) (l : List S47) (k : Nat) (hk : k < l.length) (ha : actB a = true) (hl : l.any badY = false) (h0 : owedK a l k ≠ 0) :
    (rd_T45 (runP a 0 [] (putY l k (owedK a l k - (endP a 0 [] (l.take k)).1 - 1))) k).f2 = owedK a l k - 1 := by
  rw [at_k a l k _ hk]
  obtain ⟨e1, _⟩ := end_keeps a l ha hl k (by omega)
  obtain ⟨y0, y1, y2, y3, y4, y5⟩ := year_of (bad_rd hl k hk)
  obtain ⟨d0, d1, d2, d3⟩ := due_bounds (a := a) y2 y3
  unfold owedK at *
  generalize (endP a 0 [] (l.take k)).1 = b at *
  generalize (endP a 0 [] (l.take k)).2 = r at *
  have hs := sumI_nn r (fun x hx => (e1 x hx).1)
  show mx 0 (mn (dueP a (rd_T47 l k) + sumI r) (b + (dueP a (rd_T47 l k) + sumI r - b - 1))) = _
  unfold mx mn; repeat' split
  all_goals omega
theorem owed_is (a : S23) (l : List S47) (k : Nat) (hk : k < l.length) (ha : actB a = true) (hl : l.any badY = false) : owedK a l k = (rd_T45 (runP a 0 [] l) k).f1 + if 0 < k then (rd_T45 (runP a 0 [] l) ((k - 1 : Nat) : Int)).f3 else 0 := by
  unfold owedK
  have h1 : (rd_T45 (runP a 0 [] l) k).f1 = dueP a (rd_T47 l k) := by rw [runP_rd a l k hk]; rfl
  rw [h1]
  by_cases h : 0 < k
  · rw [if_pos h]
    have f := run_facts a l ha hl (k - 1) (by omega)
    rw [show k - 1 + 1 = k by omega] at f
    rw [f.arr.1]
  · obtain rfl : k = 0 := by omega
    rw [if_neg h]
    simp [endP, sumI]
theorem none_paid (a : S23) (l : List S47) (k : Nat) (hk : k < l.length) (ha : actB a = true) (hl : l.any badY = false) (h : owedK a l k = 0) : (rd_T45 (runP a 0 [] l) k).f2 = 0 := by
  have f := run_facts a l ha hl k hk
  have h1 : (rd_T45 (runP a 0 [] l) k).f1 = dueP a (rd_T47 l k) := by rw [runP_rd a l k hk]; rfl
  have := f.paid
  unfold owedK at h
  omega
end Go.Proofs.Ytnammdkpejocmaa.Print
