/- What came in, read. -/
import Derived.Test.YtnammdkpejocmaaPrint0
import Derived.Lib.SmallJoins
import Derived.Deep.Slices
namespace Go.Proofs.Ytnammdkpejocmaa.Print
open Go.Deep Go.Joins Go.RowKit Go.ChangeShapes Go.WideShapes Go.ChangeAt Go.Proofs.YtnammdkpejocmaaW.PrintWords Go.Proofs.YtnammdkpejocmaaW.PrintLast Go.Proofs.YtnammdkpejocmaaW.PrintMore
set_option linter.unusedVariables false
set_option linter.unusedSimpArgs false
variable {H : Type} {enc : TypeId × Value → H} {W : World} {base : Nat} {spare : Nat → Bool} {held : Bool} {n : Nat}

theorem cells_3 : Try.prog.cellsOf 3 = 1 := by kernel_rfl
theorem trod_3 {c : Value} {y : DataW H × List MemPlace} (h : DataW.trod enc Try.prog W base spare held n 3 [c] = some y) : ∃ k : Int, c = .int .i64 k ∧ (Lit.int .i64 k).wf = true := by
  cases n with
  | zero => simp [DataW.trod] at h
  | succ n =>
    unfold DataW.trod at h
    rw [Try.underlying3] at h
    split at h <;> simp_all
theorem list_6 {α : Type} {l : List α} (h : l.length = 6) : ∃ a0 a1 a2 a3 a4 a5, l = [a0, a1, a2, a3, a4, a5] := by
  match l, h with
  | [a0, a1, a2, a3, a4, a5], _ => exact ⟨a0, a1, a2, a3, a4, a5, rfl⟩
theorem cells_23 : Try.prog.cellsOf 23 = 6 := by kernel_rfl
theorem trod_23 {cs : List Value} {y : DataW H × List MemPlace} (h : DataW.trod enc Try.prog W base spare held n 23 cs = some y) : ∃ x : S23, cs = [.int .i64 x.f0, .int .i64 x.f1, .int .i64 x.f2, .int .i64 x.f3, .int .i64 x.f4, .int .i64 x.f5] := by
  obtain ⟨xs, m, rfl, _, hl, hx, hf⟩ := DataW.trod_struct Try.underlying23 h
  rw [cells_23] at hl
  obtain ⟨c0, c1, c2, c3, c4, c5, rfl⟩ := list_6 hl
  obtain ⟨y0, y1, y2, y3, y4, y5, rfl⟩ := list_6 hx
  have h0 : DataW.trod enc Try.prog W base spare held m 3 (([c0, c1, c2, c3, c4, c5].drop 0).take (Try.prog.cellsOf 3)) = some y0 := hf 0 _ rfl
  rw [cells_3] at h0
  have h1 : DataW.trod enc Try.prog W base spare held m 3 (([c0, c1, c2, c3, c4, c5].drop 1).take (Try.prog.cellsOf 3)) = some y1 := hf 1 _ rfl
  rw [cells_3] at h1
  have h2 : DataW.trod enc Try.prog W base spare held m 3 (([c0, c1, c2, c3, c4, c5].drop 2).take (Try.prog.cellsOf 3)) = some y2 := hf 2 _ rfl
  rw [cells_3] at h2
  have h3 : DataW.trod enc Try.prog W base spare held m 3 (([c0, c1, c2, c3, c4, c5].drop 3).take (Try.prog.cellsOf 3)) = some y3 := hf 3 _ rfl
  rw [cells_3] at h3
  have h4 : DataW.trod enc Try.prog W base spare held m 3 (([c0, c1, c2, c3, c4, c5].drop 4).take (Try.prog.cellsOf 3)) = some y4 := hf 4 _ rfl
  rw [cells_3] at h4
  have h5 : DataW.trod enc Try.prog W base spare held m 3 (([c0, c1, c2, c3, c4, c5].drop 5).take (Try.prog.cellsOf 3)) = some y5 := hf 5 _ rfl
  rw [cells_3] at h5
  obtain ⟨v0, rfl, _⟩ := trod_3 h0
  obtain ⟨v1, rfl, _⟩ := trod_3 h1
  obtain ⟨v2, rfl, _⟩ := trod_3 h2
  obtain ⟨v3, rfl, _⟩ := trod_3 h3
  obtain ⟨v4, rfl, _⟩ := trod_3 h4
  obtain ⟨v5, rfl, _⟩ := trod_3 h5
  exact ⟨⟨v0, v1, v2, v3, v4, v5⟩, rfl⟩
theorem list_3 {α : Type} {l : List α} (h : l.length = 3) : ∃ a0 a1 a2, l = [a0, a1, a2] := by
  match l, h with
  | [a0, a1, a2], _ => exact ⟨a0, a1, a2, rfl⟩
theorem cells_47 : Try.prog.cellsOf 47 = 3 := by kernel_rfl
theorem trod_47 {cs : List Value} {y : DataW H × List MemPlace} (h : DataW.trod enc Try.prog W base spare held n 47 cs = some y) : ∃ x : S47, cs = [.int .i64 x.f0, .int .i64 x.f1, .int .i64 x.f2] := by
  obtain ⟨xs, m, rfl, _, hl, hx, hf⟩ := DataW.trod_struct Try.underlying47 h
  rw [cells_47] at hl
  obtain ⟨c0, c1, c2, rfl⟩ := list_3 hl
  obtain ⟨y0, y1, y2, rfl⟩ := list_3 hx
  have h0 : DataW.trod enc Try.prog W base spare held m 3 (([c0, c1, c2].drop 0).take (Try.prog.cellsOf 3)) = some y0 := hf 0 _ rfl
  rw [cells_3] at h0
  have h1 : DataW.trod enc Try.prog W base spare held m 3 (([c0, c1, c2].drop 1).take (Try.prog.cellsOf 3)) = some y1 := hf 1 _ rfl
  rw [cells_3] at h1
  have h2 : DataW.trod enc Try.prog W base spare held m 3 (([c0, c1, c2].drop 2).take (Try.prog.cellsOf 3)) = some y2 := hf 2 _ rfl
  rw [cells_3] at h2
  obtain ⟨v0, rfl, _⟩ := trod_3 h0
  obtain ⟨v1, rfl, _⟩ := trod_3 h1
  obtain ⟨v2, rfl, _⟩ := trod_3 h2
  exact ⟨⟨v0, v1, v2⟩, rfl⟩
theorem cells_45 : Try.prog.cellsOf 45 = 6 := by kernel_rfl
theorem trod_45 {cs : List Value} {y : DataW H × List MemPlace} (h : DataW.trod enc Try.prog W base spare held n 45 cs = some y) : ∃ x : S45, cs = [.int .i64 x.f0, .int .i64 x.f1, .int .i64 x.f2, .int .i64 x.f3, .int .i64 x.f4, .int .i64 x.f5] := by
  obtain ⟨xs, m, rfl, _, hl, hx, hf⟩ := DataW.trod_struct Try.underlying45 h
  rw [cells_45] at hl
  obtain ⟨c0, c1, c2, c3, c4, c5, rfl⟩ := list_6 hl
  obtain ⟨y0, y1, y2, y3, y4, y5, rfl⟩ := list_6 hx
  have h0 : DataW.trod enc Try.prog W base spare held m 3 (([c0, c1, c2, c3, c4, c5].drop 0).take (Try.prog.cellsOf 3)) = some y0 := hf 0 _ rfl
  rw [cells_3] at h0
  have h1 : DataW.trod enc Try.prog W base spare held m 3 (([c0, c1, c2, c3, c4, c5].drop 1).take (Try.prog.cellsOf 3)) = some y1 := hf 1 _ rfl
  rw [cells_3] at h1
  have h2 : DataW.trod enc Try.prog W base spare held m 3 (([c0, c1, c2, c3, c4, c5].drop 2).take (Try.prog.cellsOf 3)) = some y2 := hf 2 _ rfl
  rw [cells_3] at h2
  have h3 : DataW.trod enc Try.prog W base spare held m 3 (([c0, c1, c2, c3, c4, c5].drop 3).take (Try.prog.cellsOf 3)) = some y3 := hf 3 _ rfl
  rw [cells_3] at h3
  have h4 : DataW.trod enc Try.prog W base spare held m 3 (([c0, c1, c2, c3, c4, c5].drop 4).take (Try.prog.cellsOf 3)) = some y4 := hf 4 _ rfl
  rw [cells_3] at h4
  have h5 : DataW.trod enc Try.prog W base spare held m 3 (([c0, c1, c2, c3, c4, c5].drop 5).take (Try.prog.cellsOf 3)) = some y5 := hf 5 _ rfl
  rw [cells_3] at h5
  obtain ⟨v0, rfl, _⟩ := trod_3 h0
  obtain ⟨v1, rfl, _⟩ := trod_3 h1
  obtain ⟨v2, rfl, _⟩ := trod_3 h2
  obtain ⟨v3, rfl, _⟩ := trod_3 h3
  obtain ⟨v4, rfl, _⟩ := trod_3 h4
  obtain ⟨v5, rfl, _⟩ := trod_3 h5
  exact ⟨⟨v0, v1, v2, v3, v4, v5⟩, rfl⟩
theorem agg_read_23 {v : Value} {b0 : Nat} {r : Reach} {d : DataW H} {p : List MemPlace} (hv : Value.okWide Try.prog W r b0 23 v) (h : DataW.Trod enc Try.prog W base spare held 23 v d p) : ∃ x : S23, v = .agg #[.int .i64 x.f0, .int .i64 x.f1, .int .i64 x.f2, .int .i64 x.f3, .int .i64 x.f4, .int .i64 x.f5] := by
  obtain ⟨cs, rfl, hsz⟩ := okWide_struct Try.underlying23 hv
  obtain ⟨fuel, hf⟩ := h
  obtain ⟨x, hx⟩ := trod_23 hf
  refine ⟨x, ?_⟩
  congr 1
  apply Array.toList_inj.1
  simpa [Value.cells] using hx
theorem slice_read_29 {v : Value} {b0 : Nat} {r : Reach} {d : DataW H} {p : List MemPlace} (hv : Value.okWide Try.prog W r b0 29 v) (h0 : DataW.Trod enc Try.prog W base spare held 29 v d p) : ∃ (A : Option Addr) (c : Nat) (l : List S47), v = .slice A l.length c ∧ Kd.C k47 W A l.length l ∧ l.length ≤ c := by
  obtain ⟨a, len, cap, rfl⟩ := okWide_slice Try.underlying29 hv
  obtain ⟨fuel, h⟩ := h0
  have hcells : (Value.slice a len cap).cells.toList = [.slice a len cap] := by simp [Value.cells]
  rw [hcells] at h
  rcases open_slice Try.underlying29 h with ⟨e, _⟩ | ⟨a, len, cap, m, k, D, Pl, e, hb, hl, hm, hmm, _, hx⟩
  · cases e
    exact ⟨none, 0, [], rfl, Kd.C_nil _ _, Nat.le_refl _⟩
  · cases e
    have hlm : len ≤ m := by rw [hmm]; split <;> omega
    have hex : ∀ i, ∃ x : S47, i < len → ∀ j u, ([.int .i64 x.f0, .int .i64 x.f1, .int .i64 x.f2] : List Value)[j]? = some u → W.cell? (a.add (i * 3 + j)) = some u := by
      intro i
      by_cases hi : i < len
      · obtain ⟨cs, h1, h2⟩ := hx i (by omega)
        rw [cells_47] at h1
        obtain ⟨x, rfl⟩ := trod_47 h2
        refine ⟨x, fun _ j u hu => ?_⟩
        obtain ⟨_, _, h3⟩ := World.cells?_some h1
        have hj : j < 3 := by
          have := (List.getElem?_eq_some_iff.1 hu).1
          simpa using this
        have := h3 j hj
        rw [hu, Addr.add_add] at this
        exact this
      · exact ⟨z47, fun h => absurd h hi⟩
    let f : Nat → S47 := fun i => Classical.choose (hex i)
    have hf := fun i => Classical.choose_spec (hex i)
    have hlen : ((List.range len).map f).length = len := by simp
    refine ⟨some a, cap, (List.range len).map f, by rw [hlen], ?_, by omega⟩
    rw [hlen]
    refine ⟨hlen, ?_, fun _ => ⟨a, rfl, fun j p hj => ?_⟩⟩
    · have : maxLen ≤ 9223372036854775807 := by decide
      omega
    · have hj' : j < len := by
        have := (List.getElem?_eq_some_iff.1 hj).1
        simpa using this
      have : p = f j := by simpa [hj'] using hj.symm
      subst this
      exact ⟨_, rfl, k47_mk _ _, fun i u hu => hf j hj' i u hu⟩
theorem slice_read_30 {v : Value} {b0 : Nat} {r : Reach} {d : DataW H} {p : List MemPlace} (hv : Value.okWide Try.prog W r b0 30 v) (h0 : DataW.Trod enc Try.prog W base spare held 30 v d p) : ∃ (A : Option Addr) (c : Nat) (l : List S45), v = .slice A l.length c ∧ Kd.C k45 W A l.length l ∧ l.length ≤ c := by
  obtain ⟨a, len, cap, rfl⟩ := okWide_slice Try.underlying30 hv
  obtain ⟨fuel, h⟩ := h0
  have hcells : (Value.slice a len cap).cells.toList = [.slice a len cap] := by simp [Value.cells]
  rw [hcells] at h
  rcases open_slice Try.underlying30 h with ⟨e, _⟩ | ⟨a, len, cap, m, k, D, Pl, e, hb, hl, hm, hmm, _, hx⟩
  · cases e
    exact ⟨none, 0, [], rfl, Kd.C_nil _ _, Nat.le_refl _⟩
  · cases e
    have hlm : len ≤ m := by rw [hmm]; split <;> omega
    have hex : ∀ i, ∃ x : S45, i < len → ∀ j u, ([.int .i64 x.f0, .int .i64 x.f1, .int .i64 x.f2, .int .i64 x.f3, .int .i64 x.f4, .int .i64 x.f5] : List Value)[j]? = some u → W.cell? (a.add (i * 6 + j)) = some u := by
      intro i
      by_cases hi : i < len
      · obtain ⟨cs, h1, h2⟩ := hx i (by omega)
        rw [cells_45] at h1
        obtain ⟨x, rfl⟩ := trod_45 h2
        refine ⟨x, fun _ j u hu => ?_⟩
        obtain ⟨_, _, h3⟩ := World.cells?_some h1
        have hj : j < 6 := by
          have := (List.getElem?_eq_some_iff.1 hu).1
          simpa using this
        have := h3 j hj
        rw [hu, Addr.add_add] at this
        exact this
      · exact ⟨z45, fun h => absurd h hi⟩
    let f : Nat → S45 := fun i => Classical.choose (hex i)
    have hf := fun i => Classical.choose_spec (hex i)
    have hlen : ((List.range len).map f).length = len := by simp
    refine ⟨some a, cap, (List.range len).map f, by rw [hlen], ?_, by omega⟩
    rw [hlen]
    refine ⟨hlen, ?_, fun _ => ⟨a, rfl, fun j p hj => ?_⟩⟩
    · have : maxLen ≤ 9223372036854775807 := by decide
      omega
    · have hj' : j < len := by
        have := (List.getElem?_eq_some_iff.1 hj).1
        simpa using this
      have : p = f j := by simpa [hj'] using hj.symm
      subst this
      exact ⟨_, rfl, k45_mk _ _, fun i u hu => hf j hj' i u hu⟩
end Go.Proofs.Ytnammdkpejocmaa.Print
