/- PipeTrue: in plain words. -/
import Derived.Test.YtbjinkkmakhbaaaTS
namespace Go.Proofs.Ytbjinkkmakhbaaa.Print
open Go.RowKit Go.Shelf Go.Proofs.YtbjinkkmakhbaaaW.PrintWords Go.Proofs.YtbjinkkmakhbaaaW.PrintLast Go.Proofs.YtbjinkkmakhbaaaW.PrintMore
set_option linter.unusedVariables false
set_option linter.unusedSimpArgs false
section
variable {lo hi : Int} {js : List S50} {ms : List S54} {s : Nat} {d : List Int} {src : Int}
theorem rd_out {j : Nat} (h : d.length ≤ j) : rd d (j : Int) = 0 := by
  unfold rd
  rw [Int.toNat_natCast, List.getD_eq_getElem?_getD, List.getElem?_eq_none h]
  rfl
theorem need_out (b : Bool) {j : Nat} (h : js.length ≤ j) : needM js b j = 0 := by
  unfold needM rd_T50
  rw [Int.toNat_natCast, List.getD_eq_getElem?_getD, List.getElem?_eq_none h]
  cases b <;> rfl
theorem TruthOk.up (h : TruthOk lo hi js ms s d src) (j : Nat) : rd d (j : Int) ≤ needM js true j := by
  by_cases hj : j < js.length
  · exact (h.dr j hj).2
  · rw [rd_out (by rw [h.dl]; omega), need_out true (by omega)]
    exact Int.le_refl _
theorem TruthOk.dn (h : TruthOk lo hi js ms s d src) (j : Nat) : needM js false j ≤ rd d (j : Int) := by
  by_cases hj : j < js.length
  · exact (h.dr j hj).1
  · rw [rd_out (by rw [h.dl]; omega), need_out false (by omega)]
    exact Int.le_refl _
theorem TruthOk.drawn (hok : NetOk lo hi js ms) (h : TruthOk lo hi js ms s d src) : DrawnOk js d := ⟨h.dl, fun j => by
  have h1 := h.up j
  have h2 := h.dn j
  have h3 := need_nn hok false j
  have h4 : needM js true j ≤ 1000000 := by
    by_cases hj : j < js.length
    · exact (junction_ok hok.jok j).1.2.2
    · rw [need_out true (by omega)]
      decide
  omega⟩
theorem TruthOk.valves (hok : NetOk lo hi js ms) (h : TruthOk lo hi js ms s d src) : PipeMath.may (valM ms) (netM js ms).n s.testBit := (mayTo_iff hok.mok s).1 h.may
theorem true_lo (hok : NetOk lo hi js ms) (h : TruthOk lo hi js ms s d src) {j : Nat} (hj : j ≤ ms.length) : loP js ms lo j ≤ PipeMath.at_ (netM js ms) s.testBit (fun j => rd d j) src j := by
  rw [loP_m hok hj]
  exact Int.le_trans (PipeMath.least_at (netM js ms) (h.valves hok) (need_nn hok true) j) (PipeMath.at_mono (netM js ms) (fun _ h => h) (fun j => h.up j) (need_nn hok true) h.src.1 j)
theorem true_hi (hok : NetOk lo hi js ms) (h : TruthOk lo hi js ms s d src) {j : Nat} (hj : j ≤ ms.length) (hf : PipeMath.fed (netM js ms) s.testBit j = true) : PipeMath.at_ (netM js ms) s.testBit (fun j => rd d j) src j ≤ hiP js ms hi j := by
  rw [hiP_m hok hj]
  refine Int.le_trans ?_ (PipeMath.most_at (netM js ms) (h.valves hok) hf (need_nn hok false))
  exact PipeMath.at_mono (netM js ms) (fun _ h => h) (fun j => h.dn j) (fun j => ((h.drawn hok).2 j).1) h.src.2 j
theorem true_fed (hok : NetOk lo hi js ms) (h : TruthOk lo hi js ms s d src) {j : Nat} (hj : j ≤ ms.length) (hf : PipeMath.fed (netM js ms) s.testBit j = true) : statusP ms j ≠ 0 := by
  rw [Ne, status_zero js hok.mok hj]
  refine fun hn => hn ?_
  exact (PipeMath.some_fed (netM js ms) hj).1 ⟨_, h.valves hok, hf⟩
theorem true_unfed (hok : NetOk lo hi js ms) (h : TruthOk lo hi js ms s d src) {j : Nat} (hj : j ≤ ms.length) (hf : PipeMath.fed (netM js ms) s.testBit j = false) : statusP ms j ≠ 2 := by
  rw [status_m js hok.mok hj]
  have h1 : ¬ PipeMath.fed (netM js ms) (valM ms).opn j = true := fun e => by
    have := (PipeMath.all_fed (netM js ms) hj).2 e _ (h.valves hok)
    rw [hf] at this
    cases this
  rw [if_neg h1]
  split <;> decide
theorem faultL_found : ∀ (n k j : Nat), k ≤ j → j < k + n → badP lo hi js ms j ≠ none → ∃ (i : Nat) (b : Bool), faultL lo hi js ms n k = ((i : Int), b, true) ∧ i ≤ j
  | 0, k, j, h1, h2, _ => by omega
  | n + 1, k, j, h1, h2, h3 => by
    rw [faultL]
    cases hb : badP lo hi js ms k with
    | some b => exact ⟨k, b, rfl, h1⟩
    | none =>
      have hne : k ≠ j := fun e => h3 (e ▸ hb)
      exact faultL_found n (k + 1) j (by omega) (by omega) h3
theorem true_bad (hok : NetOk lo hi js ms) (h : TruthOk lo hi js ms s d src) {j : Nat} (hj : j ≤ ms.length) (hf : PipeMath.fed (netM js ms) s.testBit j = true)
    (hp : PipeMath.at_ (netM js ms) s.testBit (fun j => rd d j) src j < (rd_T50 js j).f1 ∨ (rd_T50 js j).f2 < PipeMath.at_ (netM js ms) s.testBit (fun j => rd d j) src j) : ∃ (i : Nat) (b : Bool), faultT lo hi js ms = ((i : Int), b, 0) ∧ i ≤ j := by
  have h1 := true_lo hok h hj
  have h2 := true_hi hok h hj hf
  have h3 := true_fed hok h hj hf
  have hb : badP lo hi js ms j ≠ none := by
    unfold badP
    rw [if_neg h3]
    by_cases e1 : loP js ms lo j < (rd_T50 js (j : Int)).f1
    · rw [if_pos e1]
      exact fun h => nomatch h
    · rw [if_neg e1, if_pos (by rcases hp with hp | hp <;> omega)]
      exact fun h => nomatch h
  obtain ⟨i, b, e, hij⟩ := faultL_found js.length 0 j (by omega) (by have := hok.ml; omega) hb
  refine ⟨i, b, ?_, hij⟩
  have e2 : faultS lo hi js ms = ((i : Int), b, true) := e
  have hn : netB lo hi js ms = true := by
    have h1 := hok.src
    have h2 := hok.jl
    have h3 := hok.ml
    simp only [netB, spanB, withinB, Bool.and_eq_true, decide_eq_true_eq, Bool.not_eq_true']
    exact ⟨⟨⟨⟨by omega, by omega⟩, by omega⟩, hok.jok⟩, hok.mok⟩
  unfold faultT
  rw [if_pos hn, e2]
  rfl
end
end Go.Proofs.Ytbjinkkmakhbaaa.Print
