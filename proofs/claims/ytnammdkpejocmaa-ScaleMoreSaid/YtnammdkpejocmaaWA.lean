/- ScaleWhole: what holds of the payments, in plain Lean. -/
import Derived.Test.YtnammdkpejocmaaLX
namespace Go.Proofs.Ytnammdkpejocmaa.Print
open Go.RowKit Go.Proofs.YtnammdkpejocmaaW.PrintWords Go.Proofs.YtnammdkpejocmaaW.PrintLast Go.Proofs.YtnammdkpejocmaaW.PrintMore
set_option linter.unusedVariables false
set_option linter.unusedSimpArgs false

/-! ### Sums of a column -/
def colY (g : S47 → Int) (l : List S47) (k : Nat) : Int := sumI ((l.take k).map g)
def colP (g : S45 → Int) (l : List S45) (k : Nat) : Int := sumI ((l.take k).map g)
theorem rd45_eq (l : List S45) (k : Nat) (h : k < l.length) : rd_T45 l (k : Int) = l[k] := by simp [rd_T45, List.getD_eq_getElem?_getD, h]
theorem colY_succ (g : S47 → Int) (l : List S47) (k : Nat) (h : k < l.length) : colY g l (k + 1) = colY g l k + g (rd_T47 l k) := by
  unfold colY
  rw [take_rd l k h, List.map_append, sumI_append]
  simp [sumI]
theorem colP_succ (g : S45 → Int) (l : List S45) (k : Nat) (h : k < l.length) : colP g l (k + 1) = colP g l k + g (rd_T45 l k) := by
  unfold colP
  rw [List.take_succ_eq_append_getElem h, List.map_append, sumI_append, rd45_eq l k h]
  simp [sumI]
theorem colP_mono (g : S45 → Int) (l : List S45) (h : ∀ k, k < l.length → 0 ≤ g (rd_T45 l k)) {i k : Nat} (hik : i ≤ k) (hk : k ≤ l.length) : colP g l i ≤ colP g l k := by
  induction k with
  | zero => obtain rfl : i = 0 := by omega
            exact Int.le_refl _
  | succ k ih =>
    by_cases hi : i = k + 1
    · rw [hi]; exact Int.le_refl _
    · have h1 := ih (by omega) (by omega)
      have h2 := h k (by omega)
      rw [colP_succ g l k (by omega)]
      omega
/-! ### A year -/
theorem sumI_nn : ∀ (r : List Int), (∀ x ∈ r, 0 ≤ x) → 0 ≤ sumI r
  | [], _ => Int.le_refl _
  | x :: r, h => by
    have h0 := h x (by simp)
    have h1 := sumI_nn r (fun y hy => h y (by simp [hy]))
    simp only [sumI]
    omega
theorem sumI_drop : ∀ (r : List Int) (n : Nat), (∀ x ∈ r, 0 ≤ x) → sumI (r.drop n) ≤ sumI r
  | [], n, _ => by simp
  | x :: r, 0, h => by simp
  | x :: r, n + 1, h => by
    have h0 := h x (by simp)
    have h1 := sumI_drop r n (fun y hy => h y (by simp [hy]))
    simp only [List.drop_succ_cons, sumI]
    omega
/-- What is left of arrears when p is paid. -/
theorem payL_sum : ∀ (r : List Int) (p : Int), (∀ x ∈ r, 0 ≤ x) → 0 ≤ p → sumI (payL r p) = sumI r - mn p (sumI r)
  | [], p, _, hp => by simp only [payL, sumI]; unfold mn; split <;> omega
  | x :: r, p, hr, hp => by
    have h0 := hr x (by simp)
    have hr' : ∀ y ∈ r, 0 ≤ y := fun y hy => hr y (by simp [hy])
    have hs := sumI_nn r hr'
    have hm : 0 ≤ p - mn p x := by unfold mn; split <;> omega
    have ih := payL_sum r (p - mn p x) hr' hm
    simp only [payL, sumI, ih]
    unfold mn
    repeat' split
    all_goals omega
theorem nextL_sum (r : List Int) (due paid : Int) (hr : ∀ x ∈ r, 0 ≤ x) (hd : 0 ≤ due) (hp : 0 ≤ paid) (hq : paid ≤ due + sumI r) : sumI (nextL r due paid) = sumI r + due - paid := by
  have hs := sumI_nn r hr
  unfold nextL
  rw [sumI_append, payL_sum r _ hr (by unfold mx; split <;> omega)]
  simp only [sumI]
  unfold mx mn
  repeat' split
  all_goals omega
theorem nextL_nn (r : List Int) (due paid : Int) (hr : ∀ x ∈ r, 0 ≤ x) : ∀ x ∈ nextL r due paid, 0 ≤ x := by
  intro x hx
  unfold nextL at hx
  rcases List.mem_append.1 hx with h | h
  · have hb : ∀ (r : List Int) (p : Int), (∀ x ∈ r, 0 ≤ x) → ∀ x ∈ payL r p, 0 ≤ x := by
      intro r
      induction r with
      | nil => intro p _ x hx; simp [payL] at hx
      | cons y r ih =>
        intro p hr x hx
        simp only [payL, List.mem_cons] at hx
        rcases hx with rfl | hx
        · have := hr y (by simp)
          unfold mn
          split <;> omega
        · exact ih _ (fun z hz => hr z (by simp [hz])) x hx
    exact hb r _ hr x h
  · have := List.mem_singleton.1 h
    unfold mx at this
    split at this <;> omega
/-- All that holds of one year's payment. -/
structure YearFacts (a : S23) (b : Int) (r : List Int) (y : S47) (q : S45) (b' : Int) (r' : List Int) : Prop where
  rate : 0 ≤ q.f0 ∧ q.f0 ≤ 10000
  due : 0 ≤ q.f1 ∧ q.f1 ≤ 1099511627776
  low : q.f1 * 10000 ≤ y.f1 * q.f0
  high : y.f1 * q.f0 < (q.f1 + 1) * 10000
  paid : 0 ≤ q.f2 ∧ q.f2 ≤ q.f1 + sumI r
  arr : q.f3 = sumI r' ∧ 0 ≤ q.f3
  res : q.f4 = b' ∧ q.f4 ≤ a.f4
  reb : 0 ≤ q.f5
  sum : b + y.f2 = q.f2 + q.f5 + q.f4
  clean : 0 < q.f3 → q.f4 ≤ 0 ∧ q.f5 = 0
  full : 0 < q.f5 → q.f4 = a.f4
  owed : sumI r' ≤ sumI r + q.f1 - q.f2
theorem year_facts (a : S23) (b : Int) (r : List Int) (y : S47) (ha : actB a = true) (hy : badY y = false) (hr : ∀ x ∈ r, 0 ≤ x) :
    YearFacts a b r y (yearP a b r y).p (yearP a b r y).bal (yearP a b r y).arr := by
  obtain ⟨y0, y1, y2, y3, y4, y5⟩ := year_of hy
  obtain ⟨_, _, _, _, _, _, _, _, a8, _, _, _⟩ := act_of ha
  have hrb := rate_bounds a y.f0
  obtain ⟨d0, d1, d2, d3⟩ := due_bounds (a := a) y2 y3
  have hs := sumI_nn r hr
  have hd : dueP a y = y.f1 * rateP a y.f0 / 10000 := rfl
  have hrfl : yearP a b r y = ⟨⟨rateP a y.f0, dueP a y, mx 0 (mn (dueP a y + sumI r) (b + y.f2)), sumI (settleL a.f5 r (dueP a y) (mx 0 (mn (dueP a y + sumI r) (b + y.f2)))), (b + y.f2 - mx 0 (mn (dueP a y + sumI r) (b + y.f2))) - mx 0 ((b + y.f2 - mx 0 (mn (dueP a y + sumI r) (b + y.f2))) - a.f4), mx 0 ((b + y.f2 - mx 0 (mn (dueP a y + sumI r) (b + y.f2))) - a.f4)⟩, (b + y.f2 - mx 0 (mn (dueP a y + sumI r) (b + y.f2))) - mx 0 ((b + y.f2 - mx 0 (mn (dueP a y + sumI r) (b + y.f2))) - a.f4), settleL a.f5 r (dueP a y) (mx 0 (mn (dueP a y + sumI r) (b + y.f2)))⟩ := rfl
  rw [hrfl]
  generalize hcap : y.f1 * rateP a y.f0 = cr at d0 d1 hd
  have hp : 0 ≤ mx 0 (mn (dueP a y + sumI r) (b + y.f2)) ∧ mx 0 (mn (dueP a y + sumI r) (b + y.f2)) ≤ dueP a y + sumI r := by unfold mx mn; split <;> split <;> omega
  have hb2 : 0 < b + y.f2 - mx 0 (mn (dueP a y + sumI r) (b + y.f2)) → mx 0 (mn (dueP a y + sumI r) (b + y.f2)) = dueP a y + sumI r := by unfold mx mn; split <;> split <;> omega
  generalize mx 0 (mn (dueP a y + sumI r) (b + y.f2)) = paid at hp hb2
  have hns := nextL_sum r (dueP a y) paid hr d2 hp.1 hp.2
  have hnn := nextL_nn r (dueP a y) paid hr
  have hdr := sumI_drop (nextL r (dueP a y) paid) (mx 0 ((r.length : Int) + 1 - a.f5)).toNat hnn
  have hd0 : 0 ≤ sumI (settleL a.f5 r (dueP a y) paid) := sumI_nn _ (fun x hx => hnn x (List.mem_of_mem_drop hx))
  have hle : sumI (settleL a.f5 r (dueP a y) paid) ≤ sumI r + dueP a y - paid := by
    rw [← hns]
    exact hdr
  generalize settleL a.f5 r (dueP a y) paid = r' at hd0 hle
  generalize dueP a y = due at *
  have hm : mx 0 (b + y.f2 - paid - a.f4) = if b + y.f2 - paid - a.f4 > 0 then b + y.f2 - paid - a.f4 else 0 := by unfold mx; split <;> (try split) <;> omega
  constructor
  case rate => exact hrb
  case due => exact ⟨d2, d3⟩
  case low =>
    show due * 10000 ≤ y.f1 * rateP a y.f0
    rw [hcap]
    omega
  case high =>
    show y.f1 * rateP a y.f0 < (due + 1) * 10000
    rw [hcap]
    omega
  case paid => exact hp
  case arr => exact ⟨rfl, hd0⟩
  case res =>
    refine ⟨rfl, ?_⟩
    show b + y.f2 - paid - mx 0 (b + y.f2 - paid - a.f4) ≤ a.f4
    rw [hm]
    split <;> omega
  case reb =>
    show 0 ≤ mx 0 (b + y.f2 - paid - a.f4)
    rw [hm]
    split <;> omega
  case sum =>
    show b + y.f2 = paid + mx 0 (b + y.f2 - paid - a.f4) + (b + y.f2 - paid - mx 0 (b + y.f2 - paid - a.f4))
    omega
  case clean =>
    show 0 < sumI r' → b + y.f2 - paid - mx 0 (b + y.f2 - paid - a.f4) ≤ 0 ∧ mx 0 (b + y.f2 - paid - a.f4) = 0
    intro h
    rw [hm]
    have : ¬ 0 < b + y.f2 - paid := fun hh => by
      have := hb2 hh
      omega
    split <;> omega
  case full =>
    show 0 < mx 0 (b + y.f2 - paid - a.f4) → b + y.f2 - paid - mx 0 (b + y.f2 - paid - a.f4) = a.f4
    rw [hm]
    split <;> omega
  case owed => exact hle
/-! ### All years -/
/-- The k-th year of a run that is valid. -/
theorem run_facts (a : S23) (l : List S47) (ha : actB a = true) (hl : l.any badY = false) (k : Nat) (hk : k < l.length) :
    YearFacts a (endP a 0 [] (l.take k)).1 (endP a 0 [] (l.take k)).2 (rd_T47 l k) (rd_T45 (runP a 0 [] l) k) (endP a 0 [] (l.take (k + 1))).1 (endP a 0 [] (l.take (k + 1))).2 := by
  obtain ⟨e1, e2, e3, e4⟩ := end_keeps a l ha hl k (by omega)
  have hy : badY (rd_T47 l k) = false := by
    rw [rd_T47_eq l k hk]
    have := List.any_eq_false.1 hl (l[k]'hk) (List.getElem_mem _)
    simpa using this
  have h := year_facts a (endP a 0 [] (l.take k)).1 (endP a 0 [] (l.take k)).2 (rd_T47 l k) ha hy (fun x hx => (e1 x hx).1)
  rw [runP_rd a l k hk, endP_take a l k hk]
  exact h
theorem whole_sum (a : S23) (l : List S47) (ha : actB a = true) (hl : l.any badY = false) : ∀ k : Nat, k ≤ l.length → colY (·.f2) l k = colP (·.f2) (runP a 0 [] l) k + colP (·.f5) (runP a 0 [] l) k + (endP a 0 [] (l.take k)).1
  | 0, _ => by simp [colY, colP, endP, sumI]
  | k + 1, h => by
    have ih := whole_sum a l ha hl k (by omega)
    have f := run_facts a l ha hl k (by omega)
    have hl2 := runP_len a 0 [] l
    rw [colY_succ _ l k (by omega), colP_succ _ _ k (by omega), colP_succ _ _ k (by omega)]
    have h1 := f.sum
    have h2 := f.res.1
    omega
/-! ### Arrears are of the last Back years -/
def LeL : List Int → List Int → Prop
  | [], [] => True
  | x :: r, y :: s => x ≤ y ∧ LeL r s
  | _, _ => False
theorem LeL.sum : ∀ {r s : List Int}, LeL r s → sumI r ≤ sumI s
  | [], [], _ => Int.le_refl _
  | x :: r, y :: s, h => by
    have := LeL.sum h.2
    have := h.1
    simp only [sumI]
    omega
theorem LeL.len : ∀ {r s : List Int}, LeL r s → r.length = s.length
  | [], [], _ => rfl
  | x :: r, y :: s, h => by simp [LeL.len h.2]
theorem LeL.append : ∀ {r s : List Int} {x y : Int}, LeL r s → x ≤ y → LeL (r ++ [x]) (s ++ [y])
  | [], [], _, _, _, h => ⟨h, trivial⟩
  | x :: r, y :: s, _, _, h, h2 => ⟨h.1, h.2.append h2⟩
theorem LeL.drop : ∀ {r s : List Int} (n : Nat), LeL r s → LeL (r.drop n) (s.drop n)
  | [], [], n, _ => by simp [LeL]
  | x :: r, y :: s, 0, h => h
  | x :: r, y :: s, n + 1, h => LeL.drop n h.2
theorem LeL.pay : ∀ {r s : List Int} (p : Int), (∀ x ∈ r, 0 ≤ x) → 0 ≤ p → LeL r s → LeL (payL r p) s
  | [], [], _, _, _, _ => trivial
  | x :: r, y :: s, p, hr, hp, h => by
    have h0 := hr x (by simp)
    have hm : 0 ≤ mn p x ∧ mn p x ≤ p := by unfold mn; split <;> omega
    exact ⟨by have := h.1; omega, LeL.pay _ (fun z hz => hr z (by simp [hz])) (by omega) h.2⟩
/-- The dues of the years k - m up to k. -/
theorem arr_old (a : S23) (l : List S47) (ha : actB a = true) (hl : l.any badY = false) : ∀ k : Nat, k ≤ l.length →
    ((endP a 0 [] (l.take k)).2.length : Int) ≤ a.f5 ∧ LeL (endP a 0 [] (l.take k)).2 ((((runP a 0 [] l).take k).map (·.f1)).drop (k - (endP a 0 [] (l.take k)).2.length)) ∧ (endP a 0 [] (l.take k)).2.length ≤ k
  | 0, _ => by
    obtain ⟨_, _, _, _, _, _, _, _, _, _, a10, _⟩ := act_of ha
    simp [endP, LeL]
    omega
  | k + 1, h => by
    obtain ⟨i1, i2, i3⟩ := arr_old a l ha hl k (by omega)
    obtain ⟨_, _, _, _, _, _, _, _, _, _, a10, _⟩ := act_of ha
    obtain ⟨e1, e2, e3, e4⟩ := end_keeps a l ha hl k (by omega)
    have f := run_facts a l ha hl k (by omega)
    have hR := runP_len a 0 [] l
    have hd : (rd_T45 (runP a 0 [] l) k).f1 = dueP a (rd_T47 l k) := by rw [runP_rd a l k (by omega)]; rfl
    have hrr : ∃ paid : Int, 0 ≤ paid ∧ (endP a 0 [] (l.take (k + 1))).2 = (nextL (endP a 0 [] (l.take k)).2 (dueP a (rd_T47 l k)) paid).drop (mx 0 (((endP a 0 [] (l.take k)).2.length : Int) + 1 - a.f5)).toNat := by
      refine ⟨(rd_T45 (runP a 0 [] l) k).f2, f.paid.1, ?_⟩
      rw [endP_take a l k (by omega), runP_rd a l k (by omega)]
      rfl
    obtain ⟨paid, hp, hrr⟩ := hrr
    have hdn := f.due.1
    rw [hd] at hdn
    have htk : ((runP a 0 [] l).take (k + 1)).map (·.f1) = ((runP a 0 [] l).take k).map (·.f1) ++ [dueP a (rd_T47 l k)] := by
      rw [List.take_succ_eq_append_getElem (by omega), List.map_append]
      have : (runP a 0 [] l)[k]'(by omega) = rd_T45 (runP a 0 [] l) k := (rd45_eq _ k (by omega)).symm
      rw [this]
      simp [hd]
    rw [htk, hrr]
    have hDl : (((runP a 0 [] l).take k).map (·.f1)).length = k := by rw [List.length_map, List.length_take]; omega
    generalize ((runP a 0 [] l).take k).map (·.f1) = D at i2 hDl ⊢
    generalize (endP a 0 [] (l.take k)).2 = r at *
    have hN : LeL (nextL r (dueP a (rd_T47 l k)) paid) (D.drop (k - r.length) ++ [dueP a (rd_T47 l k)]) := by
      unfold nextL
      exact (LeL.pay _ (fun x hx => (e1 x hx).1) (by unfold mx; split <;> omega) i2).append (by unfold mx; split <;> omega)
    have hNl : (nextL r (dueP a (rd_T47 l k)) paid).length = r.length + 1 := by unfold nextL; rw [List.length_append, payL_len]; rfl
    have hm : (mx 0 ((r.length : Int) + 1 - a.f5)).toNat = (r.length + 1) - a.f5.toNat := by unfold mx; split <;> omega
    rw [hm]
    refine ⟨?_, ?_, ?_⟩
    · rw [List.length_drop, hNl]; omega
    · have hN2 := hN.drop ((r.length + 1) - a.f5.toNat)
      rw [List.length_drop, hNl]
      have e : D.drop (k - r.length) ++ [dueP a (rd_T47 l k)] = (D ++ [dueP a (rd_T47 l k)]).drop (k - r.length) := by
        rw [List.drop_append_of_le_length (by omega)]
      rw [e, List.drop_drop] at hN2
      have e2 : k - r.length + (r.length + 1 - a.f5.toNat) = k + 1 - (r.length + 1 - (r.length + 1 - a.f5.toNat)) := by omega
      rw [e2] at hN2
      exact hN2
    · rw [List.length_drop, hNl]; omega
theorem sumI_split (D : List Int) (n : Nat) : sumI (D.drop n) = sumI D - sumI (D.take n) := by
  have h := sumI_append (D.take n) (D.drop n)
  rw [List.take_append_drop] at h
  omega
theorem arr_dues (a : S23) (l : List S47) (ha : actB a = true) (hl : l.any badY = false) (i : Nat) (hi : i ≤ l.length) :
    sumI (endP a 0 [] (l.take i)).2 ≤ colP (·.f1) (runP a 0 [] l) i - colP (·.f1) (runP a 0 [] l) (i - a.f5.toNat) := by
  obtain ⟨h1, h2, h3⟩ := arr_old a l ha hl i hi
  obtain ⟨_, _, _, _, _, _, _, _, _, _, a10, _⟩ := act_of ha
  have hR := runP_len a 0 [] l
  have hs := h2.sum
  rw [sumI_split, ← List.map_take, List.take_take, show min (i - (endP a 0 [] (l.take i)).2.length) i = i - (endP a 0 [] (l.take i)).2.length by omega] at hs
  have hm := colP_mono (·.f1) (runP a 0 [] l) (fun k hk => (run_facts a l ha hl k (by omega)).due.1) (i := i - a.f5.toNat) (k := i - (endP a 0 [] (l.take i)).2.length) (by omega) (by omega)
  unfold colP at *
  omega
theorem paid_chain (a : S23) (l : List S47) (ha : actB a = true) (hl : l.any badY = false) (i : Nat) : ∀ k : Nat, i ≤ k → k ≤ l.length →
    colP (·.f2) (runP a 0 [] l) k - colP (·.f2) (runP a 0 [] l) i + sumI (endP a 0 [] (l.take k)).2 ≤ sumI (endP a 0 [] (l.take i)).2 + colP (·.f1) (runP a 0 [] l) k - colP (·.f1) (runP a 0 [] l) i
  | 0, h, _ => by
    obtain rfl : i = 0 := by omega
    omega
  | k + 1, h, h2 => by
    by_cases hi : i = k + 1
    · subst hi
      omega
    · have ih := paid_chain a l ha hl i k (by omega) (by omega)
      have f := run_facts a l ha hl k (by omega)
      have hR := runP_len a 0 [] l
      rw [colP_succ _ _ k (by omega), colP_succ _ _ k (by omega)]
      have := f.owed
      omega
theorem given_due (a : S23) (l : List S47) (ha : actB a = true) (hl : l.any badY = false) (i k : Nat) (hik : i ≤ k) (hk : k < l.length) :
    colP (·.f2) (runP a 0 [] l) (k + 1) - colP (·.f2) (runP a 0 [] l) i ≤ colP (·.f1) (runP a 0 [] l) (k + 1) - colP (·.f1) (runP a 0 [] l) (i - a.f5.toNat) := by
  have h1 := paid_chain a l ha hl i (k + 1) (by omega) (by omega)
  have h2 := arr_dues a l ha hl i (by omega)
  obtain ⟨e1, _⟩ := end_keeps a l ha hl (k + 1) (by omega)
  have h3 := sumI_nn (endP a 0 [] (l.take (k + 1))).2 (fun x hx => (e1 x hx).1)
  omega
/-! ### Check of other payments -/
theorem checkL_self : ∀ (R : List S45) (i : Nat), checkL i R R = (((i + R.length : Nat) : Int), 0)
  | [], i => rfl
  | x :: R, i => by
    simp only [checkL]
    rw [if_pos (eq45_iff.2 rfl), checkL_self R (i + 1), List.length_cons]
    congr 2
    omega
theorem checkL_set : ∀ (R : List S45) (i k : Nat) (q : S45) (h : k < R.length), q ≠ R[k] → checkL i R (R.set k q) = (((i + k : Nat) : Int), 11)
  | x :: R, i, 0, q, h, hq => by
    simp only [List.set_cons_zero, checkL]
    have hq' : q ≠ x := hq
    rw [if_neg (fun h => hq' (eq45_iff.1 h))]
    rfl
  | x :: R, i, k + 1, q, h, hq => by
    simp only [List.set_cons_succ, checkL]
    rw [if_pos (eq45_iff.2 rfl), checkL_set R (i + 1) k q (by simpa using h) (by simpa using hq)]
    congr 2
    omega
theorem checkL_take : ∀ (R : List S45) (i k : Nat), k < R.length → checkL i R (R.take k) = (((i + k : Nat) : Int), 4)
  | x :: R, i, 0, h => by
    simp only [List.take_zero, checkL]
    rfl
  | x :: R, i, k + 1, h => by
    simp only [List.take_succ_cons, checkL]
    rw [if_pos (eq45_iff.2 rfl), checkL_take R (i + 1) k (by simpa using h)]
    congr 2
    omega
theorem checkL_more : ∀ (R : List S45) (i : Nat) (z : S45), checkL i R (R ++ [z]) = (((i + R.length : Nat) : Int), 11)
  | [], i, z => rfl
  | x :: R, i, z => by
    simp only [List.cons_append, checkL]
    rw [if_pos (eq45_iff.2 rfl), checkL_more R (i + 1) z, List.length_cons]
    congr 2
    omega
end Go.Proofs.Ytnammdkpejocmaa.Print
