/- The document's Network and Fed, as contracts in the code's words. -/
import Derived.Test.YtbjinkkmakhbaaaRS
import Derived.Test.YtbjinkkmakhbaaaA23
namespace Go.Proofs.Ytbjinkkmakhbaaa.Print
open Go.RowKit Go.Shelf Go.Proofs.YtbjinkkmakhbaaaW.PrintWords Go.Proofs.YtbjinkkmakhbaaaW.PrintLast Go.Proofs.YtbjinkkmakhbaaaW.PrintMore
set_option linter.unusedVariables false
set_option linter.unusedSimpArgs false
attribute [local go_sem] Oper.semAt_some
theorem rin_f (a b c : Int) : gasworksref06_in.f a b c = some (withinB a b c) := by
  unfold gasworksref06_in.f withinB
  by_cases h : b ≤ a
  · rw [if_pos h]
    simp [h]
  · rw [if_neg h]
    simp [h]
theorem rspan_f (a b c : Int) : gasworksref06_span.f a b c = some (spanB a b c) := by
  unfold gasworksref06_span.f spanB withinB
  by_cases h : a ≥ 0
  · rw [if_pos h]
    by_cases h2 : a ≤ b
    · rw [if_pos h2]
      congr 1
      rw [Bool.eq_iff_iff]
      simp only [Bool.and_eq_true, decide_eq_true_eq]
      omega
    · rw [if_neg h2]
      congr 1
      rw [Bool.eq_iff_iff]
      simp only [Bool.and_eq_true, decide_eq_true_eq, Bool.false_eq_true]
      exact ⟨fun h => h.elim, fun h => by omega⟩
  · rw [if_neg h]
    congr 1
    rw [Bool.eq_iff_iff]
    simp only [Bool.and_eq_true, decide_eq_true_eq, Bool.false_eq_true]
    exact ⟨fun h => h.elim, fun h => by omega⟩
theorem net_l1 {lo hi : Int} {js : List S50} {ms : List S54} (hm : ms.length ≤ 9223372036854775806) : ∀ (d i k : Nat), i + d = ms.length → 2 * d + 4 ≤ k → gasworksref06_Network.l1 k (i : Int) lo hi js ms = some (!anyM i (ms.drop i))
  | 0, i, k, h, hk => by
    obtain ⟨k, rfl⟩ : ∃ k', k = k' + 1 := ⟨k - 1, by omega⟩
    rw [gasworksref06_Network.l1, if_neg (by omega), List.drop_eq_nil_of_le (by omega)]
    rfl
  | d + 1, i, k, h, hk => by
    obtain ⟨k, rfl⟩ : ∃ k', k = k' + 1 + 1 := ⟨k - 2, by omega⟩
    have ih := net_l1 (lo := lo) (hi := hi) (js := js) hm d (i + 1) k (by omega) (by omega)
    have hw : wrap64 ((i : Int) + 1) = ((i + 1 : Nat) : Int) := by rw [w64 (by omega) (by omega)]; omega
    have hj : ∀ b, gasworksref06_Network.j4 (k + 1) (i : Int) b lo hi js ms = if b = true then some false else some (!anyM (i + 1) (ms.drop (i + 1))) := fun b => by
      rw [gasworksref06_Network.j4, hw, ih]
    rw [gasworksref06_Network.l1, if_pos (by omega), if_pos (by omega), List.drop_eq_getElem_cons (by omega), anyM, badM, ← rd_T54_eq _ _ (show i < ms.length by omega)]
    simp only [rin_f, Option.bind_some, hj]
    generalize withinB (rd_T54 ms (i : Int)).f0 0 (i : Int) = b0
    generalize withinB (rd_T54 ms (i : Int)).f1 0 1000 = b1
    generalize withinB (rd_T54 ms (i : Int)).f2 0 2 = b2
    generalize withinB (rd_T54 ms (i : Int)).f3 1 1000000 = b3
    cases b0 <;> cases b1 <;> cases b2 <;> cases b3 <;> simp
theorem net_l0 {lo hi : Int} {js : List S50} {ms : List S54} (hl : js.length ≤ 9223372036854775806) (hm : ms.length ≤ 9223372036854775806) : ∀ (d i k : Nat), i + d = js.length → 2 * d + 2 * ms.length + 8 ≤ k → gasworksref06_Network.l0 k (i : Int) lo hi js ms = some (!anyJ (js.drop i) && !anyM 0 ms)
  | 0, i, k, h, hk => by
    obtain ⟨k, rfl⟩ : ∃ k', k = k' + 1 := ⟨k - 1, by omega⟩
    rw [gasworksref06_Network.l0, if_neg (by omega), List.drop_eq_nil_of_le (by omega)]
    have := net_l1 (lo := lo) (hi := hi) (js := js) hm ms.length 0 k (by omega) (by omega)
    rw [List.drop_zero] at this
    exact this
  | d + 1, i, k, h, hk => by
    obtain ⟨k, rfl⟩ : ∃ k', k = k' + 1 + 1 := ⟨k - 2, by omega⟩
    have ih := net_l0 (lo := lo) (hi := hi) hl hm d (i + 1) k (by omega) (by omega)
    have hw : wrap64 ((i : Int) + 1) = ((i + 1 : Nat) : Int) := by rw [w64 (by omega) (by omega)]; omega
    have hj : ∀ b, gasworksref06_Network.j2 (k + 1) (i : Int) b lo hi js ms = if b = true then some false else some (!anyJ (js.drop (i + 1)) && !anyM 0 ms) := fun b => by
      rw [gasworksref06_Network.j2, hw, ih]
    have ha : anyJ (js.drop i) = (badJ (rd_T50 js i) || anyJ (js.drop (i + 1))) := by
      rw [List.drop_eq_getElem_cons (by omega), rd_T50_eq _ _ (show i < js.length by omega)]
      rfl
    rw [gasworksref06_Network.l0, if_pos (by omega), if_pos (by omega), ha, badJ]
    simp only [rin_f, rspan_f, Option.bind_some, hj]
    generalize withinB (rd_T50 js (i : Int)).f2 (-1099511627776) 1099511627776 = b0
    generalize withinB (rd_T50 js (i : Int)).f1 (-1099511627776) (rd_T50 js (i : Int)).f2 = b1
    generalize spanB (rd_T50 js (i : Int)).f0.f0 (rd_T50 js (i : Int)).f0.f1 1000000 = b2
    generalize withinB (rd_T50 js (i : Int)).f3 (-1) 1099511627776 = b3
    cases b0 <;> cases b1 <;> cases b2 <;> cases b3 <;> simp
theorem net_f {lo hi : Int} {js : List S50} {ms : List S54} (hl : js.length ≤ 9223372036854775806) (hm : ms.length ≤ 9223372036854775806) : gasworksref06_Network.f (2 * js.length + 2 * ms.length + 20) lo hi js ms = some (netB lo hi js ms) := by
  have h0 := net_l0 (lo := lo) (hi := hi) hl hm js.length 0 (2 * js.length + 2 * ms.length + 19) (by omega) (by omega)
  rw [List.drop_zero] at h0
  unfold gasworksref06_Network.f netB
  have hj : ∀ b, gasworksref06_Network.j0 (2 * js.length + 2 * ms.length + 20) b lo hi js ms = if b = true then some false else some (!anyJ js && !anyM 0 ms) := fun b => by
    rw [show 2 * js.length + 2 * ms.length + 20 = (2 * js.length + 2 * ms.length + 19) + 1 from rfl, gasworksref06_Network.j0, ← h0]
    rfl
  simp only [rin_f, rspan_f, Option.bind_some, hj]
  rw [w64 (by omega) (by omega)]
  have e : ((ms.length : Int) != (js.length : Int) - 1) = !decide ((ms.length : Int) = (js.length : Int) - 1) := by
    by_cases h : (ms.length : Int) = (js.length : Int) - 1
    · rw [decide_eq_true h, h]; simp
    · rw [decide_eq_false h]; simp [h]
  rw [e]
  generalize spanB lo hi 1099511627776 = b0
  generalize withinB (js.length : Int) 1 9 = b1
  generalize decide ((ms.length : Int) = (js.length : Int) - 1) = b2
  cases b0 <;> cases b1 <;> cases b2 <;> simp
theorem rNetwork_any (lo hi : Int) (A : Option Addr) (c : Nat) (js : List S50) (A' : Option Addr) (c' : Nat) (ms : List S54) (w : World) (hr : Kd.C k50 w A js.length js) (hc : js.length ≤ c) (hr' : Kd.C k54 w A' ms.length ms) (hc' : ms.length ≤ c') (hl : js.length ≤ 9223372036854775806) (hm : ms.length ≤ 9223372036854775806) :
    Calls Try.prog 23 #[.agg #[.int .i64 lo, .int .i64 hi, .slice A js.length c, .slice A' ms.length c']] w fun e w' => e = .returned (.bool (netB lo hi js ms)) ∧ Below w.heap.size w w' :=
  gasworksref06_Network.calls _ lo hi A c js A' c' ms _ w hr hc hr' hc' (net_f hl hm)
theorem netF_mono {lo hi : Int} {js : List S50} {ms : List S54} {k d : Nat} {r : Bool} (h : gasworksref06_Network.f k lo hi js ms = some r) : gasworksref06_Network.f (k + d) lo hi js ms = some r := by
  induction d with
  | zero => exact h
  | succ d ih => exact gasworksref06_Network.mono lo hi js ms _ _ ih
theorem rFed_f {lo hi : Int} {js : List S50} {ms : List S54} (hl : js.length ≤ 9223372036854775806) (hm : ms.length ≤ 9223372036854775806) (j : Int) : ∃ k, gasworksref06_Fed.f k lo hi js ms j = some (fedS lo hi js ms j) := by
  refine ⟨2 * js.length + 2 * ms.length + 20 + 400, ?_⟩
  unfold gasworksref06_Fed.f fedS
  rw [netF_mono (net_f hl hm), Option.bind_some, w64 (by omega) (by omega), rin_f]
  by_cases hn : netB lo hi js ms = true
  · rw [if_pos hn, if_pos hn, Option.bind_some]
    by_cases hj : withinB j 0 ((js.length : Int) - 1) = true
    · rw [if_pos hj, if_pos hj]
      have hok := net_ok hn
      simp only [withinB, Bool.and_eq_true, decide_eq_true_eq] at hj
      obtain ⟨k, rfl⟩ := Int.eq_ofNat_of_zero_le hj.1
      have hml := hok.ml
      have hjl := hok.jl
      have hp : 2 ^ ms.length ≤ 256 := Nat.le_trans (Nat.pow_le_pow_right (n := 2) (by decide) (show ms.length ≤ 8 by omega)) (by decide)
      rw [Int.toNat_natCast]
      exact fed_l0 hok (by omega) (2 ^ ms.length) 0 _ (by omega) (by omega)
    · rw [if_neg hj, if_neg hj]
  · rw [if_neg hn, if_neg hn]
theorem rFed_any (lo hi : Int) (A : Option Addr) (c : Nat) (js : List S50) (A' : Option Addr) (c' : Nat) (ms : List S54) (j : Int) (w : World) (hr : Kd.C k50 w A js.length js) (hc : js.length ≤ c) (hr' : Kd.C k54 w A' ms.length ms) (hc' : ms.length ≤ c') (hl : js.length ≤ 9223372036854775806) (hm : ms.length ≤ 9223372036854775806) :
    Calls Try.prog 13 #[.agg #[.int .i64 lo, .int .i64 hi, .slice A js.length c, .slice A' ms.length c'], .int .i64 j] w fun e w' => e = .returned (.tuple #[.int .i64 (fedS lo hi js ms j).1, .int .i64 (fedS lo hi js ms j).2]) ∧ Below w.heap.size w w' := by
  obtain ⟨k, h⟩ := rFed_f (lo := lo) (hi := hi) hl hm j
  exact gasworksref06_Fed.calls k lo hi A c js A' c' ms j _ _ w hr hc hr' hc' h
/-- What press answers: the span, and whether it is. -/
def prS (lo hi : Int) (js : List S50) (ms : List S54) (j : Nat) : Int × Int × Bool := if statusP ms j = 0 then (0, 0, false) else (loP js ms lo j, hiP js ms hi j, true)
theorem rpress_any (lo hi : Int) (A : Option Addr) (c : Nat) (js : List S50) (A' : Option Addr) (c' : Nat) (ms : List S54) (hok : NetOk lo hi js ms) (j : Nat) (hj : j ≤ ms.length) (w : World) (hr : Kd.C k50 w A js.length js) (hc : js.length ≤ c) (hr' : Kd.C k54 w A' ms.length ms) (hc' : ms.length ≤ c') :
    Calls Try.prog 41 #[.agg #[.int .i64 lo, .int .i64 hi, .slice A js.length c, .slice A' ms.length c'], .int .i64 (j : Int)] w fun e w' => e = .returned (.tuple #[.agg #[.int .i64 (prS lo hi js ms j).1, .int .i64 (prS lo hi js ms j).2.1], .bool (prS lo hi js ms j).2.2]) ∧ Below w.heap.size w w' := by
  refine gasworksref06_press.calls 700 lo hi A c js A' c' ms j _ _ _ w hr hc hr' hc' ?_
  rw [press_ok hok hj (Nat.le_refl _), prTo_spec hok hj]
  unfold prS
  by_cases h : statusP ms j = 0
  · rw [if_pos h, if_neg ((status_zero js hok.mok hj).1 h)]
  · rw [if_neg h, if_pos]
    refine Classical.byContradiction (fun hh => h ((status_zero js hok.mok hj).2 hh))
end Go.Proofs.Ytbjinkkmakhbaaa.Print
