/- The document's example, and equal payments. -/
import Derived.Test.YtnammdkpejocmaaLA
import Derived.Test.YtnammdkpejocmaaSM
namespace Go.Proofs.Ytnammdkpejocmaa.Print
open Go.RowKit Go.Proofs.YtnammdkpejocmaaW.PrintWords Go.Proofs.YtnammdkpejocmaaW.PrintLast Go.Proofs.YtnammdkpejocmaaW.PrintMore
set_option linter.unusedVariables false
set_option linter.unusedSimpArgs false

theorem rd45_append {l r : List S45} {x : S45} : rd_T45 (l ++ x :: r) (l.length : Int) = x := by simp [rd_T45, List.getD_eq_getElem?_getD]
theorem ne45 (y x : S45) : (!(y.f0 == x.f0) || (!(y.f1 == x.f1) || (!(y.f2 == x.f2) || (!(y.f3 == x.f3) || (!(y.f4 == x.f4) || !(y.f5 == x.f5)))))) = !eq45 y x := by
  by_cases h : y = x
  · subst h
    have : eq45 y y = true := eq45_iff.2 rfl
    rw [this]
    simp
  · have e : eq45 y x = false := by
      cases hh : eq45 y x
      · rfl
      · exact absurd (eq45_iff.1 hh) h
    rw [e]
    obtain ⟨y0, y1, y2, y3, y4, y5⟩ := y
    obtain ⟨x0, x1, x2, x3, x4, x5⟩ := x
    simp only [S45.mk.injEq, not_and] at h
    simp only [Bool.not_false, Bool.or_eq_true, Bool.not_eq_true', beq_eq_false_iff_ne, ne_eq]
    omega
/-! ### Payments -/
theorem Pay_l0 : ∀ (s q : List S45) (k : Nat), (q ++ s).length < 1000000 → s.length < k → gasworksref13_Payments.l0 k (q ++ s) (q ++ s) (q.length : Int) = some true
  | [], q, k + 1, hl, hk => by
    unfold gasworksref13_Payments.l0
    rw [if_neg (by simp)]
  | y :: s, q, k + 1, hl, hk => by
    simp only [List.length_cons] at hk
    have hl2 := hl
    simp only [List.length_append, List.length_cons] at hl2
    have ih := Pay_l0 s (q ++ [y]) k (by simpa using hl) (by omega)
    simp only [List.append_assoc, List.singleton_append, List.length_append, List.length_singleton] at ih
    unfold gasworksref13_Payments.l0
    rw [if_pos (by simp only [List.length_append, List.length_cons]; omega), if_pos (by omega), if_pos (by simp only [List.length_append, List.length_cons]; omega), rd45_append, ne45, (eq45_iff.2 rfl : eq45 y y = true), if_neg (by simp), w64 (by omega) (by omega), show (q.length : Int) + 1 = ((q.length + 1 : Nat) : Int) by omega]
    exact ih
theorem Pay_fk (k : Nat) (l : List S45) (hl : l.length ≤ 60) : gasworksref13_Payments.f (k + 100) l l = some true := by
  unfold gasworksref13_Payments.f
  rw [if_pos rfl]
  exact Pay_l0 l [] (k + 100) (by simp; omega) (by omega)
/-! ### The example -/
def exA : S23 := ⟨48, 1000, 4, 25, 500, 1⟩
def exL : List S47 := [⟨44, 10000, 900⟩, ⟨48, 10000, 1300⟩, ⟨40, 8000, 1500⟩, ⟨53, 8000, (-600)⟩, ⟨53, 8000, 100⟩]
def exP : List S45 := [⟨1025, 1025, 900, 125, 0, 0⟩, ⟨1000, 1000, 1125, 0, 175, 0⟩, ⟨1050, 840, 840, 0, 500, 335⟩, ⟨950, 760, 0, 760, (-100), 0⟩, ⟨950, 760, 0, 760, 0, 0⟩]
theorem exRun : runS exA exL = (exP, 0) := by kernel_rfl
theorem exCheck : checkS exA exL exP = (5, 0) := by decide +kernel
theorem exNeed : neededS exA exL 4 = (1620, 0) := by decide +kernel
theorem dear_of (a : S23) (r p : Int) (ha : actB a = true) (hr : 0 ≤ r ∧ r ≤ 10000) (hp : 0 ≤ p ∧ p ≤ 100000) (h1 : r ≤ rateP a p) (h2 : p < 100000 → rateP a (p + 1) < r) : dearestS a r = (p, 0) := by
  obtain ⟨n, rfl⟩ := Int.eq_ofNat_of_zero_le hp.1
  have hc : ∀ m : Nat, n + 1 ≤ m → m ≤ 100001 → countN a r m = n + 1 := by
    intro m
    induction m with
    | zero => intro h; omega
    | succ m ih =>
      intro h h3
      rw [countN_succ a r m ha]
      by_cases hm : m = n
      · subst hm
        rw [if_pos h1]
      · have := rate_anti a ha (p := (n : Int) + 1) (q := (m : Int)) (by omega)
        have := h2 (by omega)
        rw [if_neg (by omega), ih (by omega) (by omega)]
  have hd : dearN a r = n + 1 := hc 100001 (by omega) (Nat.le_refl _)
  unfold dearestS
  rw [if_pos ha, if_pos (by simp [withinB, hr]), hd, if_neg (by omega)]
  simp
theorem exDear : dearestS exA 950 = (56, 0) := dear_of exA 950 56 (by decide +kernel) (by omega) (by omega) (by decide +kernel) (fun _ => by decide +kernel)
theorem exRate1 : rateS exA 45 = (1000, 0) := by decide +kernel
theorem exRate2 : rateS exA 53 = (950, 0) := by decide +kernel
end Go.Proofs.Ytnammdkpejocmaa.Print
