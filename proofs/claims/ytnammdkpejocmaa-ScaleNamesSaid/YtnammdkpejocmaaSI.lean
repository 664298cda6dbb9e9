/- All years of a company, in their order; its iterator. -/
import Derived.Test.YtnammdkpejocmaaSH
import Derived.Test.YtnammdkpejocmaaRG
namespace Go.Proofs.Ytnammdkpejocmaa.Print
open Go.RowKit Go.Shelf Go.Proofs.YtnammdkpejocmaaW.PrintWords Go.Proofs.YtnammdkpejocmaaW.PrintLast Go.Proofs.YtnammdkpejocmaaW.PrintMore
set_option linter.unusedVariables false
set_option linter.unusedSimpArgs false
attribute [local go_sem] Oper.semAt_some

def runP (a : S23) : Int → List Int → List S47 → List S45
  | _, _, [] => []
  | b, r, y :: l => (yearP a b r y).p :: runP a (yearP a b r y).bal (yearP a b r y).arr l
def endP (a : S23) : Int → List Int → List S47 → Int × List Int
  | b, r, [] => (b, r)
  | b, r, y :: l => endP a (yearP a b r y).bal (yearP a b r y).arr l
theorem runP_len (a : S23) : ∀ (b : Int) (r : List Int) (l : List S47), (runP a b r l).length = l.length
  | _, _, [] => rfl
  | b, r, y :: l => by simp only [runP, List.length_cons, runP_len a]
theorem runP_append (a : S23) : ∀ (b : Int) (r : List Int) (l m : List S47), runP a b r (l ++ m) = runP a b r l ++ runP a (endP a b r l).1 (endP a b r l).2 m
  | _, _, [], m => by simp [runP, endP]
  | b, r, y :: l, m => by simp only [List.cons_append, runP, endP, runP_append a]
theorem endP_append (a : S23) : ∀ (b : Int) (r : List Int) (l m : List S47), endP a b r (l ++ m) = endP a (endP a b r l).1 (endP a b r l).2 m
  | _, _, [], m => by simp [endP]
  | b, r, y :: l, m => by simp only [List.cons_append, endP, endP_append a]
theorem take_rd (l : List S47) (k : Nat) (h : k < l.length) : l.take (k + 1) = l.take k ++ [rd_T47 l k] := by
  rw [List.take_succ_eq_append_getElem h, rd_T47_eq l k h]
theorem endP_take (a : S23) (l : List S47) (k : Nat) (h : k < l.length) : endP a 0 [] (l.take (k + 1)) = ((yearP a (endP a 0 [] (l.take k)).1 (endP a 0 [] (l.take k)).2 (rd_T47 l k)).bal, (yearP a (endP a 0 [] (l.take k)).1 (endP a 0 [] (l.take k)).2 (rd_T47 l k)).arr) := by
  rw [take_rd l k h, endP_append]
  rfl
theorem runP_take (a : S23) (l : List S47) (k : Nat) : runP a 0 [] (l.take k) = (runP a 0 [] l).take k := by
  by_cases hk : k ≤ l.length
  · have h := runP_append a 0 [] (l.take k) (l.drop k)
    rw [List.take_append_drop] at h
    rw [h]
    exact (List.take_left' (by rw [runP_len, List.length_take]; omega)).symm
  · rw [List.take_of_length_le (by omega), List.take_of_length_le (by rw [runP_len]; omega)]
theorem runP_rd (a : S23) (l : List S47) (k : Nat) (h : k < l.length) : rd_T45 (runP a 0 [] l) k = (yearP a (endP a 0 [] (l.take k)).1 (endP a 0 [] (l.take k)).2 (rd_T47 l k)).p := by
  have h1 := runP_append a 0 [] (l.take k) (l.drop k)
  rw [List.take_append_drop] at h1
  have hd : l.drop k = rd_T47 l k :: l.drop (k + 1) := by rw [List.drop_eq_getElem_cons h, rd_T47_eq l k h]
  rw [hd] at h1
  have e : (runP a 0 [] (l.take k)).length = k := by rw [runP_len, List.length_take]; omega
  rw [h1]
  simp only [rd_T45, Int.toNat_natCast, List.getD_eq_getElem?_getD]
  rw [List.getElem?_append_right (by omega), e, Nat.sub_self]
  rfl
/-- What the iterator yields. -/
def fullL (a : S23) (l : List S47) : List (Nat × S45) := (List.range l.length).map fun k => (k, rd_T45 (runP a 0 [] l) k)
theorem fullL_len (a : S23) (l : List S47) : (fullL a l).length = l.length := by simp [fullL]
theorem fullL_take (a : S23) (l : List S47) (k : Nat) (h : k < l.length) : (fullL a l).take (k + 1) = (fullL a l).take k ++ [(k, rd_T45 (runP a 0 [] l) k)] := by
  rw [List.take_succ_eq_append_getElem (by rw [fullL_len]; exact h)]
  simp [fullL]
theorem year_keeps (a : S23) (b : Int) (r : List Int) (y : S47) (k : Int) (ha : actB a = true) (hy : badY y = false) (hr : ∀ x ∈ r, 0 ≤ x ∧ x ≤ 1099511627776) (hb : -(k * 1099511627776) ≤ b ∧ b ≤ k * 1099511627776) :
    (∀ x ∈ (yearP a b r y).arr, 0 ≤ x ∧ x ≤ 1099511627776) ∧ (yearP a b r y).arr.length ≤ 5 ∧ -((k + 1) * 1099511627776) ≤ (yearP a b r y).bal ∧ (yearP a b r y).bal ≤ (k + 1) * 1099511627776 := by
  obtain ⟨y0, y1, y2, y3, y4, y5⟩ := year_of hy
  obtain ⟨_, _, d2, d3⟩ := due_bounds (a := a) y2 y3
  obtain ⟨_, _, _, _, _, _, _, _, m0, m1, k0, k1⟩ := act_of ha
  have hs := sumI_bounds 1099511627776 r hr
  have e : (k + 1) * 1099511627776 = k * 1099511627776 + 1099511627776 := by omega
  obtain ⟨s1, s2⟩ := settle_bounds a.f5 r (dueP a y) (mx 0 (mn (dueP a y + sumI r) (b + y.f2))) hr ⟨d2, d3⟩ (by unfold mx; split <;> omega)
  refine ⟨s1, ?_, ?_, ?_⟩
  · show (settleL a.f5 r (dueP a y) _).length ≤ 5
    unfold settleL nextL
    rw [List.length_drop, List.length_append, payL_len]
    simp only [List.length_cons, List.length_nil]
    unfold mx
    split <;> omega
  · show _ ≤ (b + y.f2 - mx 0 (mn (dueP a y + sumI r) (b + y.f2))) - mx 0 ((b + y.f2 - mx 0 (mn (dueP a y + sumI r) (b + y.f2))) - a.f4)
    rw [e]
    generalize dueP a y + sumI r = q
    unfold mx mn
    repeat' split
    all_goals omega
  · show (b + y.f2 - mx 0 (mn (dueP a y + sumI r) (b + y.f2))) - mx 0 ((b + y.f2 - mx 0 (mn (dueP a y + sumI r) (b + y.f2))) - a.f4) ≤ _
    rw [e]
    generalize hq : dueP a y + sumI r = q
    have hq0 : 0 ≤ q := by omega
    unfold mx mn
    repeat' split
    all_goals omega
theorem end_keeps (a : S23) (l : List S47) (ha : actB a = true) (hl : l.any badY = false) : ∀ k : Nat, k ≤ l.length → (∀ x ∈ (endP a 0 [] (l.take k)).2, 0 ≤ x ∧ x ≤ 1099511627776) ∧ (endP a 0 [] (l.take k)).2.length ≤ 5 ∧ -((k : Int) * 1099511627776) ≤ (endP a 0 [] (l.take k)).1 ∧ (endP a 0 [] (l.take k)).1 ≤ (k : Int) * 1099511627776
  | 0, _ => by simp [endP]
  | k + 1, h => by
    obtain ⟨h1, h2, h3, h4⟩ := end_keeps a l ha hl k (by omega)
    have hy : badY (rd_T47 l k) = false := by
      rw [rd_T47_eq l k (by omega)]
      have := List.any_eq_false.1 hl (l[k]'(by omega)) (List.getElem_mem _)
      simpa using this
    have := year_keeps a _ _ (rd_T47 l k) k ha hy h1 ⟨h3, h4⟩
    rw [endP_take a l k (by omega)]
    have e : ((k + 1 : Nat) : Int) = (k : Int) + 1 := by omega
    rw [e]
    exact this
end Go.Proofs.Ytnammdkpejocmaa.Print
