/- ScaleMore: the law. -/
import Derived.Test.YtnammdkpejocmaaWE
namespace Go.Proofs.Ytnammdkpejocmaa.Print
open Go.RowKit Go.Proofs.YtnammdkpejocmaaW.PrintWords Go.Proofs.YtnammdkpejocmaaW.PrintLast Go.Proofs.YtnammdkpejocmaaW.PrintMore
set_option linter.unusedVariables false
set_option linter.unusedSimpArgs false
theorem u8_of' {n : Int} (h : (Lit.int .u8 n).wf = true) : 0 ≤ n ∧ n ≤ 255 := by
  simp only [Lit.wf, Bool.and_eq_true, decide_eq_true_eq] at h
  have h1 : IntKind.min .u8 = 0 := by decide
  have h2 : IntKind.max .u8 = 255 := by decide
  rw [h1, h2] at h
  exact h
theorem u32_of {n : Int} (h : (Lit.int .u32 n).wf = true) : 0 ≤ n ∧ n ≤ 4294967295 := by
  simp only [Lit.wf, Bool.and_eq_true, decide_eq_true_eq] at h
  have h1 : IntKind.min .u32 = 0 := by decide
  have h2 : IntKind.max .u32 = 4294967295 := by decide
  rw [h1, h2] at h
  exact h
theorem putY_err {a : S23} {l : List S47} (he : errY a l = 0) (k : Nat) (hk : k < l.length) (n : Int) (h1 : -1099511627776 ≤ n) (h2 : n ≤ 1099511627776) : errY a (putY l k n) = 0 := by
  obtain ⟨ha, h16, hl⟩ := err_fine he
  unfold errY
  rw [if_pos ha, if_neg (by rw [putY_len]; omega), if_neg (by rw [putY_bad hl k hk n ⟨h1, h2⟩]; decide)]
theorem need_is (a : S23) (l : List S47) (he : errY a l = 0) (k : Nat) (hk : k < l.length) : neededS a l (k : Int) = if owedK a l k = 0 then (0, 4) else (owedK a l k - (endP a 0 [] (l.take k)).1, 0) := by
  unfold neededS
  rw [if_pos he, if_pos (by unfold withinB; exact decide_eq_true (by omega))]
  rfl
theorem more_walk (a : S23) (A1 : Option Addr) (c1 : Nat) (l : List S47) (x y : Int) (w : World) (hr : Kd.C k47 w A1 l.length l) (hc : l.length ≤ c1) (hx0 : (Lit.int .u8 x).wf = true) (hy0 : (Lit.int .u32 y).wf = true) :
    Calls Try.prog 8 #[actV a, .slice A1 l.length c1, .int .u8 x, .int .u32 y] w fun e w' => e = .returned (.bool true) ∧ Below w.heap.size w w' := by
  have hx := u8_of' hx0
  have hy := u32_of hy0
  by_cases hbig : 24 < l.length ∨ l.length = 0
  · exact more_big a A1 c1 l x y w hr hbig
  have h24 : l.length ≤ 24 := by omega
  have h0 : l.length ≠ 0 := by omega
  by_cases he : errY a l = 0
  · obtain ⟨ha, h16, hl⟩ := err_fine he
    obtain ⟨k, hk⟩ : ∃ k : Nat, x % (l.length : Int) = (k : Int) := ⟨(x % (l.length : Int)).toNat, (Int.toNat_of_nonneg (Int.emod_nonneg _ (by omega))).symm⟩
    have hkl : k < l.length := by have := Int.emod_lt_of_pos x (show (0:Int) < l.length by omega); omega
    obtain ⟨y0, y1, y2, y3, y4, y5⟩ := year_of (bad_rd hl k hkl)
    obtain ⟨d0, d1, d2, d3⟩ := due_bounds (a := a) y2 y3
    obtain ⟨e1, e2, e3, e4⟩ := end_keeps a l ha hl k (by omega)
    have hsb := sumI_bounds 1099511627776 _ e1
    have hln : ((endP a 0 [] (l.take k)).2.length : Int) * 1099511627776 ≤ 5 * 1099511627776 := by omega
    have hp : (rd_T47 l k).f2 ≤ mn 1099511627776 ((rd_T47 l k).f2 + y) ∧ mn 1099511627776 ((rd_T47 l k).f2 + y) ≤ 1099511627776 := by unfold mn; split <;> omega
    have hpl := putY_len l k (mn 1099511627776 ((rd_T47 l k).f2 + y))
    have hpb := putY_bad hl k hkl (mn 1099511627776 ((rd_T47 l k).f2 + y)) (by omega)
    have hm := more_paid a l k (mn 1099511627776 ((rd_T47 l k).f2 + y)) hkl hp.1
    have hcmp : ∀ i : Nat, i < l.length → (rd_T47 (putY l k (mn 1099511627776 ((rd_T47 l k).f2 + y))) i).f0 = (rd_T47 l i).f0 ∧ (rd_T47 (putY l k (mn 1099511627776 ((rd_T47 l k).f2 + y))) i).f1 = (rd_T47 l i).f1 ∧ (rd_T47 l i).f2 ≤ (rd_T47 (putY l k (mn 1099511627776 ((rd_T47 l k).f2 + y))) i).f2 := by
      intro i hi
      rw [putY_rd l k i _ hi]
      by_cases h : i = k
      · subst h
        rw [if_pos rfl]
        exact ⟨rfl, rfl, hp.1⟩
      · rw [if_neg h]
        exact ⟨rfl, rfl, Int.le_refl _⟩
    have hen := enough_at a l k hkl ha hl
    have hsum := sumI_nn (endP a 0 [] (l.take k)).2 (fun x hx => (e1 x hx).1)
    exact more_main a A1 c1 l x y _ _ _ k w hr hc h16 h0 he hx hy hk hkl rfl (by omega) rfl rfl (fun n h1 h2 => putY_err he k hkl n h1 h2) (by omega) hm.1 hm.2
      (fun i hi => same_before a l k i _ hi hkl) (fun i hi => more_at a l _ ha hl hpb hpl hcmp i hi) (owedK a l k) (endP a 0 [] (l.take k)).1 (need_is a l he k hkl) (owed_is a l k hkl ha hl) (by unfold owedK; omega) (by omega)
      (fun h => none_paid a l k hkl ha hl h) _ _ rfl rfl hen (fun h => short_at a l k hkl ha hl h)
  · exact more_err a A1 c1 l x y (errY a l) w hr hc h24 h0 he (by unfold runS; rw [if_neg he])
end Go.Proofs.Ytnammdkpejocmaa.Print
