/- BalanceTrue: the law's function is true of all arguments. -/
import Derived.Test.YtalgbihpidpblaaL5
namespace Go.Proofs.Ytalgbihpidpblaa.Print
open Go.RowKit Go.Shelf Go.Proofs.YtalgbihpidpblaaW.PrintWords Go.Proofs.YtalgbihpidpblaaW.PrintLast Go.Proofs.YtalgbihpidpblaaW.PrintMore
set_option linter.unusedVariables false
set_option linter.unusedSimpArgs false

theorem u8_of {n : Int} (h : (Lit.int .u8 n).wf = true) : 0 ≤ n ∧ n ≤ 255 := by
  simp only [Lit.wf, Bool.and_eq_true, decide_eq_true_eq] at h
  have h1 : IntKind.min .u8 = 0 := by decide
  have h2 : IntKind.max .u8 = 255 := by decide
  rw [h1, h2] at h
  exact h
theorem u16_of {n : Int} (h : (Lit.int .u16 n).wf = true) : 0 ≤ n ∧ n ≤ 65535 := by
  simp only [Lit.wf, Bool.and_eq_true, decide_eq_true_eq] at h
  have h1 : IntKind.min .u16 = 0 := by decide
  have h2 : IntKind.max .u16 = 65535 := by decide
  rw [h1, h2] at h
  exact h
theorem up_of {m : Int} {l : List Int} (h : ∀ x ∈ l, 0 ≤ x ∧ x ≤ m) : upB m l = true := by
  unfold upB
  rw [List.all_eq_true]
  intro x hx
  rw [Bool.and_eq_true, decide_eq_true_eq, decide_eq_true_eq]
  exact h x hx
theorem BalanceTrue_walk (a0 : Int) (A1 : Option Addr) (c1 : Nat) (st : List Int) (A2 : Option Addr) (c2 : Nat) (gs : List Int) (A3 : Option Addr) (c3 : Nat) (wd : List Int) (w : World) (w0 : (Lit.int .u8 a0).wf = true)
    (r1 : Kd.C (Kd.int .u8) w A1 st.length st) (b1 : st.length ≤ c1) (g1 : st.length ≤ 9223372036854775807 ∧ ∀ x ∈ st, (Lit.int .u8 x).wf = true) (r2 : Kd.C (Kd.int .u16) w A2 gs.length gs) (b2 : gs.length ≤ c2) (g2 : gs.length ≤ 9223372036854775807 ∧ ∀ x ∈ gs, (Lit.int .u16 x).wf = true)
    (r3 : Kd.C (Kd.int .u8) w A3 wd.length wd) (b3 : wd.length ≤ c3) (g3 : wd.length ≤ 9223372036854775807 ∧ ∀ x ∈ wd, (Lit.int .u8 x).wf = true) :
    Calls Try.prog 5 #[.int .u8 a0, .slice A1 st.length c1, .slice A2 gs.length c2, .slice A3 wd.length c3] w fun e w' => e = .returned (.bool true) ∧ Below w.heap.size w w' := by
  by_cases h : 0 < st.length ∧ 0 < gs.length ∧ 0 < wd.length
  · exact true_main a0 A1 A2 A3 c1 c2 c3 st gs wd w (u8_of w0) r1 r2 r3 h.1 h.2.1 h.2.2 g1.1 g2.1 g3.1 (up_of fun x hx => u8_of (g1.2 x hx)) (up_of fun x hx => u16_of (g2.2 x hx)) (up_of fun x hx => u8_of (g3.2 x hx))
  · exact true_early a0 A1 A2 A3 c1 c2 c3 st gs wd w g1.1 g2.1 g3.1 (by omega)
end Go.Proofs.Ytalgbihpidpblaa.Print
