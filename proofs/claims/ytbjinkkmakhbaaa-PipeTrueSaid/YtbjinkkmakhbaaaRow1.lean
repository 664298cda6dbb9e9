/- Slices of whole numbers that came in, read. -/
import Derived.Test.YtbjinkkmakhbaaaRow0
import Derived.ChangeSlices
namespace Go.Proofs.Ytbjinkkmakhbaaa.Print
open Go.Deep Go.Joins Go.RowKit Go.ChangeShapes Go.WideShapes Go.ChangeAt Go.Proofs.YtbjinkkmakhbaaaW.PrintWords Go.Proofs.YtbjinkkmakhbaaaW.PrintLast Go.Proofs.YtbjinkkmakhbaaaW.PrintMore
set_option linter.unusedVariables false
set_option linter.unusedSimpArgs false
variable {H : Type} {enc : TypeId × Value → H} {W : World} {base : Nat} {spare : Nat → Bool} {held : Bool} {n : Nat}

set_option maxRecDepth 100000 in
theorem ints_read {t e : TypeId} {k : IntKind} {v : Value} {b0 : Nat} {r : Reach} {d : DataW H} {p : List MemPlace} (ht : Try.prog.underlying t = some (.slice e)) (he : Try.prog.underlying e = some (.int k)) (hc : Try.prog.cellsOf e = 1) (hv : Value.okWide Try.prog W r b0 t v)
    (h : DataW.Trod enc Try.prog W base spare held t v d p) :
    ∃ (A : Option Addr) (c : Nat) (l : List Int), v = .slice A l.length c ∧ Kd.C (Kd.int k) W A l.length l ∧ l.length ≤ c ∧ (l.length ≤ 9223372036854775807 ∧ ∀ x ∈ l, (Lit.int k x).wf = true) := by
  obtain ⟨a, len, cap, rfl⟩ := okWide_slice ht hv
  obtain ⟨fuel, hf⟩ := h
  rcases open_ints ht he hc hf with ⟨hcs, _⟩ | ⟨x, l, c, zs, hcs, _, hl, hm, hz, _, hcell, hwz⟩
  · simp [Value.cells] at hcs
    obtain ⟨rfl, rfl, rfl⟩ := hcs
    exact ⟨none, 0, [], rfl, Kd.C_nil _ _, Nat.le_refl _, by simp, fun x hx => by cases hx⟩
  · simp [Value.cells] at hcs
    obtain ⟨rfl, rfl, rfl⟩ := hcs
    have hm' : maxLen = 9223372036854775807 := by decide
    have hz' : len ≤ zs.length := by rw [hz]; split <;> omega
    have hlen : (zs.take len).length = len := by simp; omega
    refine ⟨some x, cap, zs.take len, by rw [hlen], ?_, by rw [hlen]; exact hl, by rw [hlen]; omega, fun y hy => hwz y (List.mem_of_mem_take hy)⟩
    rw [hlen]
    refine ⟨hlen, by omega, fun _ => ⟨x, rfl, fun j q hj => ?_⟩⟩
    have hjl : j < len := by
      have := (List.getElem?_eq_some_iff.1 hj).1
      omega
    have hq : zs.getD j 0 = q := by
      rw [List.getElem?_take, if_pos hjl] at hj
      simp [List.getD_eq_getElem?_getD, hj]
    refine ⟨[.int k q], rfl, rfl, fun i u hu => ?_⟩
    cases i with
    | zero =>
      have := hcell j (by omega)
      rw [hq] at this
      cases hu
      show W.cell? (x.add (j * 1 + 0)) = some (.int k q)
      rw [Nat.mul_one, Nat.add_zero]
      exact this
    | succ i => simp at hu
end Go.Proofs.Ytbjinkkmakhbaaa.Print
