/- What came in, read. -/
import Derived.Test.YtbjinkkmakhbaaaPrint0
import Derived.Lib.SmallJoins
import Derived.Deep.Slices
namespace Go.Proofs.Ytbjinkkmakhbaaa.Print
open Go.Deep Go.Joins Go.RowKit Go.ChangeShapes Go.WideShapes Go.ChangeAt Go.Proofs.YtbjinkkmakhbaaaW.PrintWords Go.Proofs.YtbjinkkmakhbaaaW.PrintLast Go.Proofs.YtbjinkkmakhbaaaW.PrintMore
set_option linter.unusedVariables false
set_option linter.unusedSimpArgs false
set_option maxRecDepth 100000
variable {H : Type} {enc : TypeId × Value → H} {W : World} {base : Nat} {spare : Nat → Bool} {held : Bool} {n : Nat}

theorem cells_3 : Try.prog.cellsOf 3 = 1 := by kernel_rfl
theorem trod_3 {c : Value} {y : DataW H × List MemPlace} (h : DataW.trod enc Try.prog W base spare held n 3 [c] = some y) : ∃ k : Int, c = .int .i64 k ∧ (Lit.int .i64 k).wf = true := by
  cases n with
  | zero => simp [DataW.trod] at h
  | succ n =>
    unfold DataW.trod at h
    rw [Try.underlying3] at h
    split at h <;> simp_all
theorem list_2 {α : Type} {l : List α} (h : l.length = 2) : ∃ a0 a1, l = [a0, a1] := by
  match l, h with
  | [a0, a1], _ => exact ⟨a0, a1, rfl⟩
theorem cells_23 : Try.prog.cellsOf 23 = 2 := by kernel_rfl
theorem trod_23 {cs : List Value} {y : DataW H × List MemPlace} (h : DataW.trod enc Try.prog W base spare held n 23 cs = some y) : ∃ x : S23, cs = [.int .i64 x.f0, .int .i64 x.f1] := by
  obtain ⟨xs, m, rfl, _, hl, hx, hf⟩ := DataW.trod_struct Try.underlying23 h
  rw [cells_23] at hl
  obtain ⟨c0, c1, rfl⟩ := list_2 hl
  obtain ⟨y0, y1, rfl⟩ := list_2 hx
  have h0 : DataW.trod enc Try.prog W base spare held m 3 (([c0, c1].drop 0).take (Try.prog.cellsOf 3)) = some y0 := hf 0 _ rfl
  rw [cells_3] at h0
  have h1 : DataW.trod enc Try.prog W base spare held m 3 (([c0, c1].drop 1).take (Try.prog.cellsOf 3)) = some y1 := hf 1 _ rfl
  rw [cells_3] at h1
  obtain ⟨v0, rfl, _⟩ := trod_3 h0
  obtain ⟨v1, rfl, _⟩ := trod_3 h1
  exact ⟨⟨v0, v1⟩, rfl⟩
theorem list_5 {α : Type} {l : List α} (h : l.length = 5) : ∃ a0 a1 a2 a3 a4, l = [a0, a1, a2, a3, a4] := by
  match l, h with
  | [a0, a1, a2, a3, a4], _ => exact ⟨a0, a1, a2, a3, a4, rfl⟩
theorem list_4 {α : Type} {l : List α} (h : l.length = 4) : ∃ a0 a1 a2 a3, l = [a0, a1, a2, a3] := by
  match l, h with
  | [a0, a1, a2, a3], _ => exact ⟨a0, a1, a2, a3, rfl⟩
theorem cells_50 : Try.prog.cellsOf 50 = 5 := by kernel_rfl
theorem trod_50 {cs : List Value} {y : DataW H × List MemPlace} (h : DataW.trod enc Try.prog W base spare held n 50 cs = some y) : ∃ x : S50, cs = [.int .i64 x.f0.f0, .int .i64 x.f0.f1, .int .i64 x.f1, .int .i64 x.f2, .int .i64 x.f3] := by
  obtain ⟨xs, m, rfl, _, hl, hx, hf⟩ := DataW.trod_struct Try.underlying50 h
  rw [cells_50] at hl
  obtain ⟨c0, c1, c2, c3, c4, rfl⟩ := list_5 hl
  obtain ⟨y0, y1, y2, y3, rfl⟩ := list_4 hx
  have h0 : DataW.trod enc Try.prog W base spare held m 23 (([c0, c1, c2, c3, c4].drop 0).take (Try.prog.cellsOf 23)) = some y0 := hf 0 _ rfl
  rw [cells_23] at h0
  have h1 : DataW.trod enc Try.prog W base spare held m 3 (([c0, c1, c2, c3, c4].drop 2).take (Try.prog.cellsOf 3)) = some y1 := hf 1 _ rfl
  rw [cells_3] at h1
  have h2 : DataW.trod enc Try.prog W base spare held m 3 (([c0, c1, c2, c3, c4].drop 3).take (Try.prog.cellsOf 3)) = some y2 := hf 2 _ rfl
  rw [cells_3] at h2
  have h3 : DataW.trod enc Try.prog W base spare held m 3 (([c0, c1, c2, c3, c4].drop 4).take (Try.prog.cellsOf 3)) = some y3 := hf 3 _ rfl
  rw [cells_3] at h3
  obtain ⟨v0, e0⟩ := trod_23 h0
  cases e0
  obtain ⟨v1, rfl, _⟩ := trod_3 h1
  obtain ⟨v2, rfl, _⟩ := trod_3 h2
  obtain ⟨v3, rfl, _⟩ := trod_3 h3
  exact ⟨⟨v0, v1, v2, v3⟩, rfl⟩
theorem cells_54 : Try.prog.cellsOf 54 = 4 := by kernel_rfl
theorem trod_54 {cs : List Value} {y : DataW H × List MemPlace} (h : DataW.trod enc Try.prog W base spare held n 54 cs = some y) : ∃ x : S54, cs = [.int .i64 x.f0, .int .i64 x.f1, .int .i64 x.f2, .int .i64 x.f3] := by
  obtain ⟨xs, m, rfl, _, hl, hx, hf⟩ := DataW.trod_struct Try.underlying54 h
  rw [cells_54] at hl
  obtain ⟨c0, c1, c2, c3, rfl⟩ := list_4 hl
  obtain ⟨y0, y1, y2, y3, rfl⟩ := list_4 hx
  have h0 : DataW.trod enc Try.prog W base spare held m 3 (([c0, c1, c2, c3].drop 0).take (Try.prog.cellsOf 3)) = some y0 := hf 0 _ rfl
  rw [cells_3] at h0
  have h1 : DataW.trod enc Try.prog W base spare held m 3 (([c0, c1, c2, c3].drop 1).take (Try.prog.cellsOf 3)) = some y1 := hf 1 _ rfl
  rw [cells_3] at h1
  have h2 : DataW.trod enc Try.prog W base spare held m 3 (([c0, c1, c2, c3].drop 2).take (Try.prog.cellsOf 3)) = some y2 := hf 2 _ rfl
  rw [cells_3] at h2
  have h3 : DataW.trod enc Try.prog W base spare held m 3 (([c0, c1, c2, c3].drop 3).take (Try.prog.cellsOf 3)) = some y3 := hf 3 _ rfl
  rw [cells_3] at h3
  obtain ⟨v0, rfl, _⟩ := trod_3 h0
  obtain ⟨v1, rfl, _⟩ := trod_3 h1
  obtain ⟨v2, rfl, _⟩ := trod_3 h2
  obtain ⟨v3, rfl, _⟩ := trod_3 h3
  exact ⟨⟨v0, v1, v2, v3⟩, rfl⟩
theorem cells_24 : Try.prog.cellsOf 24 = 1 := by kernel_rfl
theorem cslice_24 {v : Value} {y : DataW H × List MemPlace} (h : DataW.trod enc Try.prog W base spare held n 24 [v] = some y) : ∃ (A : Option Addr) (c : Nat) (l : List S50), v = .slice A l.length c ∧ Kd.C k50 W A l.length l ∧ l.length ≤ c := by
  rcases open_slice Try.underlying24 h with ⟨e, _⟩ | ⟨a, len, cap, m, k, D, Pl, e, hb, hl, hm, hmm, _, hx⟩
  · cases e
    exact ⟨none, 0, [], rfl, Kd.C_nil _ _, Nat.le_refl _⟩
  · cases e
    have hlm : len ≤ m := by rw [hmm]; split <;> omega
    have hex : ∀ i, ∃ x : S50, i < len → ∀ j u, ([.int .i64 x.f0.f0, .int .i64 x.f0.f1, .int .i64 x.f1, .int .i64 x.f2, .int .i64 x.f3] : List Value)[j]? = some u → W.cell? (a.add (i * 5 + j)) = some u := by
      intro i
      by_cases hi : i < len
      · obtain ⟨cs, h1, h2⟩ := hx i (by omega)
        rw [cells_50] at h1
        obtain ⟨x, rfl⟩ := trod_50 h2
        refine ⟨x, fun _ j u hu => ?_⟩
        obtain ⟨_, _, h3⟩ := World.cells?_some h1
        have hj : j < 5 := by
          have := (List.getElem?_eq_some_iff.1 hu).1
          simpa using this
        have := h3 j hj
        rw [hu, Addr.add_add] at this
        exact this
      · exact ⟨z50, fun h => absurd h hi⟩
    let f : Nat → S50 := fun i => Classical.choose (hex i)
    have hf := fun i => Classical.choose_spec (hex i)
    have hlen : ((List.range len).map f).length = len := by simp
    refine ⟨some a, cap, (List.range len).map f, by rw [hlen], ?_, by omega⟩
    rw [hlen]
    refine ⟨hlen, ?_, fun _ => ⟨a, rfl, fun j p hj => ?_⟩⟩
    · have : maxLen ≤ 9223372036854775807 := by decide
      omega
    · have hj' : j < len := by
        have := (List.getElem?_eq_some_iff.1 hj).1
        simpa using this
      have : p = f j := by simpa [hj'] using hj.symm
      subst this
      exact ⟨_, rfl, k50_mk _ _, fun i u hu => hf j hj' i u hu⟩
theorem cells_25 : Try.prog.cellsOf 25 = 1 := by kernel_rfl
theorem cslice_25 {v : Value} {y : DataW H × List MemPlace} (h : DataW.trod enc Try.prog W base spare held n 25 [v] = some y) : ∃ (A : Option Addr) (c : Nat) (l : List S54), v = .slice A l.length c ∧ Kd.C k54 W A l.length l ∧ l.length ≤ c := by
  rcases open_slice Try.underlying25 h with ⟨e, _⟩ | ⟨a, len, cap, m, k, D, Pl, e, hb, hl, hm, hmm, _, hx⟩
  · cases e
    exact ⟨none, 0, [], rfl, Kd.C_nil _ _, Nat.le_refl _⟩
  · cases e
    have hlm : len ≤ m := by rw [hmm]; split <;> omega
    have hex : ∀ i, ∃ x : S54, i < len → ∀ j u, ([.int .i64 x.f0, .int .i64 x.f1, .int .i64 x.f2, .int .i64 x.f3] : List Value)[j]? = some u → W.cell? (a.add (i * 4 + j)) = some u := by
      intro i
      by_cases hi : i < len
      · obtain ⟨cs, h1, h2⟩ := hx i (by omega)
        rw [cells_54] at h1
        obtain ⟨x, rfl⟩ := trod_54 h2
        refine ⟨x, fun _ j u hu => ?_⟩
        obtain ⟨_, _, h3⟩ := World.cells?_some h1
        have hj : j < 4 := by
          have := (List.getElem?_eq_some_iff.1 hu).1
          simpa using this
        have := h3 j hj
        rw [hu, Addr.add_add] at this
        exact this
      · exact ⟨z54, fun h => absurd h hi⟩
    let f : Nat → S54 := fun i => Classical.choose (hex i)
    have hf := fun i => Classical.choose_spec (hex i)
    have hlen : ((List.range len).map f).length = len := by simp
    refine ⟨some a, cap, (List.range len).map f, by rw [hlen], ?_, by omega⟩
    rw [hlen]
    refine ⟨hlen, ?_, fun _ => ⟨a, rfl, fun j p hj => ?_⟩⟩
    · have : maxLen ≤ 9223372036854775807 := by decide
      omega
    · have hj' : j < len := by
        have := (List.getElem?_eq_some_iff.1 hj).1
        simpa using this
      have : p = f j := by simpa [hj'] using hj.symm
      subst this
      exact ⟨_, rfl, k54_mk _ _, fun i u hu => hf j hj' i u hu⟩
theorem list_3 {α : Type} {l : List α} (h : l.length = 3) : ∃ a0 a1 a2, l = [a0, a1, a2] := by
  match l, h with
  | [a0, a1, a2], _ => exact ⟨a0, a1, a2, rfl⟩
theorem cells_27 : Try.prog.cellsOf 27 = 4 := by kernel_rfl
theorem mix_read_27 {v : Value} {b0 : Nat} {r : Reach} {d : DataW H} {p : List MemPlace} (hv : Value.okWide Try.prog W r b0 27 v) (h : DataW.Trod enc Try.prog W base spare held 27 v d p) : ∃ (x0 : S23) (A1 : Option Addr) (c1_ : Nat) (l1 : List S50) (A2 : Option Addr) (c2_ : Nat) (l2 : List S54), v = .agg #[.int .i64 x0.f0, .int .i64 x0.f1, .slice A1 l1.length c1_, .slice A2 l2.length c2_] ∧ Kd.C k50 W A1 l1.length l1 ∧ l1.length ≤ c1_ ∧ Kd.C k54 W A2 l2.length l2 ∧ l2.length ≤ c2_ := by
  obtain ⟨ca, rfl, hsz⟩ := okWide_struct Try.underlying27 hv
  obtain ⟨fuel, hf0⟩ := h
  obtain ⟨xs, m, hxs, _, hl, hx, hf⟩ := DataW.trod_struct Try.underlying27 hf0
  rw [cells_27] at hl
  have hcl : ca.toList.length = 4 := by simpa [Value.cells] using hl
  obtain ⟨c0, c1, c2, c3, hcl⟩ := list_4 hcl
  have hca : ca = #[c0, c1, c2, c3] := Array.toList_inj.1 hcl
  subst hca
  obtain ⟨y0, y1, y2, rfl⟩ := list_3 hx
  have h0 : DataW.trod enc Try.prog W base spare held m 23 (([c0, c1, c2, c3].drop 0).take (Try.prog.cellsOf 23)) = some y0 := hf 0 _ rfl
  rw [cells_23] at h0
  have h1 : DataW.trod enc Try.prog W base spare held m 24 (([c0, c1, c2, c3].drop 2).take (Try.prog.cellsOf 24)) = some y1 := hf 1 _ rfl
  rw [cells_24] at h1
  have h2 : DataW.trod enc Try.prog W base spare held m 25 (([c0, c1, c2, c3].drop 3).take (Try.prog.cellsOf 25)) = some y2 := hf 2 _ rfl
  rw [cells_25] at h2
  obtain ⟨v0, e0⟩ := trod_23 h0
  cases e0
  obtain ⟨A1, k1, l1, rfl, C1, b1⟩ := cslice_24 h1
  obtain ⟨A2, k2, l2, rfl, C2, b2⟩ := cslice_25 h2
  exact ⟨v0, A1, k1, l1, A2, k2, l2, rfl, C1, b1, C2, b2⟩
end Go.Proofs.Ytbjinkkmakhbaaa.Print
