/- The law ScaleOwns, in plain Lean. -/
import Derived.Test.YtnammdkpejocmaaLX
import Derived.Test.YtnammdkpejocmaaQ9
namespace Go.Proofs.Ytnammdkpejocmaa.Print
open Go.RowKit Go.Proofs.YtnammdkpejocmaaW.PrintWords Go.Proofs.YtnammdkpejocmaaW.PrintLast Go.Proofs.YtnammdkpejocmaaW.PrintMore
set_option linter.unusedVariables false
set_option linter.unusedSimpArgs false

theorem rd47_app {l r : List S47} {x : S47} : rd_T47 (l ++ x :: r) (l.length : Int) = x := by simp [rd_T47, List.getD_eq_getElem?_getD]
theorem runS_le (a : S23) (l : List S47) : (runS a l).1.length ≤ l.length := by
  unfold runS
  split
  · rw [runP_len]; exact Nat.le_refl _
  · simp
theorem owns_l1 (p R : List S45) (e : Int) (hp : p.length ≤ 60) (hR : R.length ≤ 60) : ∀ (s q : List S47) (k : Nat), (q ++ s).length ≤ 60 → s.length < k →
    gasworkslaw13_ScaleOwns.l1 (k + 100) (q ++ s) p (q ++ s) p e R R e ((q ++ s).length : Int) (q.length : Int) = some true
  | [], q, k + 1, hl, hk => by
    have e1 := Pay_fk k p hp
    have e2 := Pay_fk k R hR
    rw [show k + 1 + 100 = (k + 100) + 1 by omega, gasworkslaw13_ScaleOwns.l1, if_neg (by simp), e1, Option.bind_some, if_pos rfl, e2, Option.bind_some, if_pos rfl, if_pos rfl]
    rfl
  | y :: s, q, k + 1, hl, hk => by
    simp only [List.length_cons] at hk
    have hl2 := hl
    simp only [List.length_append, List.length_cons] at hl2
    have ih := owns_l1 p R e hp hR s (q ++ [y]) k (by simpa using hl) (by omega)
    simp only [List.append_assoc, List.singleton_append] at ih
    rw [show (q ++ [y]).length = q.length + 1 by simp] at ih
    rw [show k + 1 + 100 = (k + 100) + 1 by omega, gasworkslaw13_ScaleOwns.l1, if_pos (by simp only [List.length_append, List.length_cons]; omega), if_pos (by omega), if_pos (by simp only [List.length_append, List.length_cons]; omega), if_pos (by simp only [List.length_append, List.length_cons]; omega), rd47_app, if_neg (by simp), w64 (by omega) (by omega), show (q.length : Int) + 1 = ((q.length + 1 : Nat) : Int) by omega]
    exact ih
theorem owns_l0 (a : S23) (l : List S47) (p R : List S45) (hl : l.length ≤ 24) (hp : p.length ≤ 30) (hR : R = (runS a l).1) : ∀ (d i : Nat) (x : List S45) (k : Nat), x.length = R.length → i + d = R.length → d < k →
    gasworkslaw13_ScaleOwns.l0 (k + 200) l p l p x (runS a l).2 R (R.length : Int) (i : Int) a.f0 a.f1 a.f2 a.f3 a.f4 a.f5 = some true
  | 0, i, x, k + 1, hx, hi, hk => by
    have hlen := runS_le a l
    rw [← hR] at hlen
    rw [show k + 1 + 200 = (k + 200) + 1 by omega, gasworkslaw13_ScaleOwns.l0, if_neg (by omega)]
    show ((some (checkS a l p)).bind _) = _
    rw [Option.bind_some]
    show ((some (neededS a l 0)).bind _) = _
    rw [Option.bind_some]
    show ((some (runS a l)).bind _) = _
    rw [Option.bind_some, ← hR]
    have h := owns_l1 p R (runS a l).2 (by omega) (by omega) l [] (k + 100) (by simp; omega) (by omega)
    simp only [List.nil_append, List.length_nil, Int.natCast_zero] at h
    exact h
  | d + 1, i, x, k + 1, hx, hi, hk => by
    have hlen := runS_le a l
    rw [← hR] at hlen
    rw [show k + 1 + 200 = (k + 200) + 1 by omega, gasworkslaw13_ScaleOwns.l0, if_pos (by omega), if_pos (by omega), if_pos (by omega), w64 (by omega) (by omega), show (i : Int) + 1 = ((i + 1 : Nat) : Int) by omega]
    exact owns_l0 a l p R hl hp hR d (i + 1) _ k (by rw [List.length_set, hx]) (by omega) (by omega)
theorem ScaleOwns_true (a : S23) (l : List S47) (p : List S45) : gasworkslaw13_ScaleOwns.f (399 + 1) a.f0 a.f1 a.f2 a.f3 a.f4 a.f5 l p = some true := by
  unfold gasworkslaw13_ScaleOwns.f
  by_cases h : (l.length : Int) > 24
  · rw [if_pos h, gasworkslaw13_ScaleOwns.j0, if_pos rfl]
    rfl
  · rw [if_neg h, gasworkslaw13_ScaleOwns.j0]
    by_cases h2 : (p.length : Int) > 30
    · rw [if_pos (by simpa using h2)]
      rfl
    · rw [if_neg (by simpa using h2), Option.bind_some]
      have hlen := runS_le a l
      rw [if_pos (by simp; omega), Option.bind_some, if_pos (by simp; omega)]
      show ((some (runS a l)).bind _) = _
      rw [Option.bind_some, Option.bind_some, if_pos (by simp; omega)]
      have h3 := owns_l0 a l p (runS a l).1 (by omega) (by omega) rfl (runS a l).1.length 0 (runS a l).1 199 rfl (by omega) (by omega)
      simp only [List.nil_append]
      exact h3
theorem ScaleOwns_walk (a : S23) (A1 : Option Addr) (c1 : Nat) (l1 : List S47) (A2 : Option Addr) (c2 : Nat) (l2 : List S45) (w : World) (hr1 : Kd.C k47 w A1 l1.length l1) (hc1 : l1.length ≤ c1) (hr2 : Kd.C k45 w A2 l2.length l2) (hc2 : l2.length ≤ c2) :
    Calls Try.prog 9 #[actV a, .slice A1 l1.length c1, .slice A2 l2.length c2] w fun e w' => e = .returned (.bool true) ∧ Below w.heap.size w w' :=
  gasworkslaw13_ScaleOwns.calls _ _ _ _ _ _ _ A1 c1 l1 A2 c2 l2 _ w hr1 hc1 hr2 hc2 (ScaleOwns_true a l1 l2) rfl
end Go.Proofs.Ytnammdkpejocmaa.Print
