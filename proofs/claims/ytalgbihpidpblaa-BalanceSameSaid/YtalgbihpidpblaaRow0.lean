/- A plant that came in, read. -/
import Derived.Test.YtalgbihpidpblaaPrint0
import Derived.Lib.SmallJoins
import Derived.Deep.Slices
namespace Go.Proofs.Ytalgbihpidpblaa.Print
open Go.Deep Go.Joins Go.RowKit Go.ChangeShapes Go.WideShapes Go.ChangeAt Go.Proofs.YtalgbihpidpblaaW.PrintWords Go.Proofs.YtalgbihpidpblaaW.PrintLast Go.Proofs.YtalgbihpidpblaaW.PrintMore
set_option linter.unusedVariables false
set_option linter.unusedSimpArgs false

variable {H : Type} {enc : TypeId × Value → H} {W : World} {base : Nat} {spare : Nat → Bool} {held : Bool} {n : Nat}

theorem trod3 {c : Value} {y : DataW H × List MemPlace} (h : DataW.trod enc Try.prog W base spare held n 3 [c] = some y) : ∃ k : Int, c = .int .i64 k := by
  cases n with
  | zero => simp [DataW.trod] at h
  | succ n =>
    unfold DataW.trod at h
    rw [Try.underlying3] at h
    split at h <;> simp_all
theorem list2 {α : Type} {l : List α} (h : l.length = 2) : ∃ a b, l = [a, b] := by
  match l, h with
  | [a, b], _ => exact ⟨a, b, rfl⟩
theorem list4 {α : Type} {l : List α} (h : l.length = 4) : ∃ a b c d, l = [a, b, c, d] := by
  match l, h with
  | [a, b, c, d], _ => exact ⟨a, b, c, d, rfl⟩
theorem cells3 : Try.prog.cellsOf 3 = 1 := by kernel_rfl
theorem cells45 : Try.prog.cellsOf 45 = 2 := by kernel_rfl
theorem cells47 : Try.prog.cellsOf 47 = 4 := by kernel_rfl
theorem cells24 : Try.prog.cellsOf 24 = 2 := by kernel_rfl
theorem trod45 {cs : List Value} {y : DataW H × List MemPlace} (h : DataW.trod enc Try.prog W base spare held n 45 cs = some y) : ∃ a b : Int, cs = [.int .i64 a, .int .i64 b] := by
  obtain ⟨xs, m, rfl, _, hl, hx, hf⟩ := DataW.trod_struct Try.underlying45 h
  rw [cells45] at hl
  obtain ⟨c0, c1, rfl⟩ := list2 hl
  obtain ⟨y0, y1, rfl⟩ := list2 hx
  have h0 : DataW.trod enc Try.prog W base spare held m 3 (([c0, c1].drop 0).take (Try.prog.cellsOf 3)) = some y0 := hf 0 _ rfl
  have h1 : DataW.trod enc Try.prog W base spare held m 3 (([c0, c1].drop 1).take (Try.prog.cellsOf 3)) = some y1 := hf 1 _ rfl
  rw [cells3] at h0 h1
  obtain ⟨a, rfl⟩ := trod3 h0
  obtain ⟨b, rfl⟩ := trod3 h1
  exact ⟨a, b, rfl⟩
theorem list3 {α : Type} {l : List α} (h : l.length = 3) : ∃ a b c, l = [a, b, c] := by
  match l, h with
  | [a, b, c], _ => exact ⟨a, b, c, rfl⟩
theorem trod47 {cs : List Value} {y : DataW H × List MemPlace} (h : DataW.trod enc Try.prog W base spare held n 47 cs = some y) : ∃ x : S47, cs = [.int .i64 x.f0, .int .i64 x.f1, .int .i64 x.f2.f0, .int .i64 x.f2.f1] := by
  obtain ⟨xs, m, rfl, _, hl, hx, hf⟩ := DataW.trod_struct Try.underlying47 h
  rw [cells47] at hl
  obtain ⟨c0, c1, c2, c3, rfl⟩ := list4 hl
  obtain ⟨y0, y1, y2, rfl⟩ := list3 hx
  have h0 : DataW.trod enc Try.prog W base spare held m 3 (([c0, c1, c2, c3].drop 0).take (Try.prog.cellsOf 3)) = some y0 := hf 0 _ rfl
  have h1 : DataW.trod enc Try.prog W base spare held m 3 (([c0, c1, c2, c3].drop 1).take (Try.prog.cellsOf 3)) = some y1 := hf 1 _ rfl
  have h2 : DataW.trod enc Try.prog W base spare held m 45 (([c0, c1, c2, c3].drop 2).take (Try.prog.cellsOf 45)) = some y2 := hf 2 _ rfl
  rw [cells3] at h0 h1
  rw [cells45] at h2
  obtain ⟨a, rfl⟩ := trod3 h0
  obtain ⟨b, rfl⟩ := trod3 h1
  obtain ⟨p, q, e⟩ := trod45 h2
  cases e
  exact ⟨⟨a, b, ⟨p, q⟩⟩, rfl⟩

theorem flows_read {v : Value} {y : DataW H × List MemPlace} (h : DataW.trod enc Try.prog W base spare held n 22 [v] = some y) : ∃ (A : Option Addr) (c : Nat) (l : List S47), v = .slice A l.length c ∧ Kd.C k47 W A l.length l ∧ l.length ≤ c := by
  rcases open_slice Try.underlying22 h with ⟨e, _⟩ | ⟨a, len, cap, m, k, D, Pl, e, hb, hl, hm, hmm, _, hx⟩
  · cases e
    exact ⟨none, 0, [], rfl, Kd.C_nil _ _, Nat.le_refl _⟩
  · cases e
    have hlm : len ≤ m := by rw [hmm]; split <;> omega
    have hex : ∀ i, ∃ x : S47, i < len → ∀ j u, ([.int .i64 x.f0, .int .i64 x.f1, .int .i64 x.f2.f0, .int .i64 x.f2.f1] : List Value)[j]? = some u → W.cell? (a.add (i * 4 + j)) = some u := by
      intro i
      by_cases hi : i < len
      · obtain ⟨cs, h1, h2⟩ := hx i (by omega)
        rw [cells47] at h1
        obtain ⟨x, rfl⟩ := trod47 h2
        refine ⟨x, fun _ j u hu => ?_⟩
        obtain ⟨_, _, h3⟩ := World.cells?_some h1
        have hj : j < 4 := by
          have := (List.getElem?_eq_some_iff.1 hu).1
          simpa using this
        have := h3 j hj
        rw [hu, Addr.add_add] at this
        exact this
      · exact ⟨z47, fun h => absurd h hi⟩
    let f : Nat → S47 := fun i => Classical.choose (hex i)
    have hf := fun i => Classical.choose_spec (hex i)
    have hlen : ((List.range len).map f).length = len := by simp
    refine ⟨some a, cap, (List.range len).map f, by rw [hlen], ?_, by omega⟩
    rw [hlen]
    refine ⟨hlen, ?_, fun _ => ⟨a, rfl, fun j p hj => ?_⟩⟩
    · have : maxLen ≤ 9223372036854775807 := by decide
      omega
    · have hj' : j < len := by
        have := (List.getElem?_eq_some_iff.1 hj).1
        simpa using this
      have : p = f j := by simpa [hj'] using hj.symm
      subst this
      exact ⟨_, rfl, k47_mk _ _, fun i u hu => hf j hj' i u hu⟩

theorem plant_read {v : Value} {b0 : Nat} {r : Reach} {d : DataW H} {p : List MemPlace} (hv : Value.okWide Try.prog W r b0 24 v) (h : DataW.Trod enc Try.prog W base spare held 24 v d p) :
    ∃ (pl : Int) (A : Option Addr) (c : Nat) (l : List S47), v = .agg #[.int .i64 pl, .slice A l.length c] ∧ Kd.C k47 W A l.length l ∧ l.length ≤ c := by
  obtain ⟨v0, v1, y0, y1, n, rfl, _, _, h0, h1⟩ := open_agg2 Try.underlying24 (by kernel_rfl) cells24 hv h
  obtain ⟨pl, rfl⟩ := trod3 h0
  obtain ⟨A, c, l, rfl, hC, hc⟩ := flows_read h1
  exact ⟨pl, A, c, l, rfl, hC, hc⟩
end Go.Proofs.Ytalgbihpidpblaa.Print
