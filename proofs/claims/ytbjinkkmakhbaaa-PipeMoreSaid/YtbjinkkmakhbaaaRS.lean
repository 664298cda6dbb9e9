/- The document's Fed and press answer as the code reckons. -/
import Derived.Test.YtbjinkkmakhbaaaRP
import Derived.Test.YtbjinkkmakhbaaaPrint6
import Derived.Test.YtbjinkkmakhbaaaA18
namespace Go.Proofs.Ytbjinkkmakhbaaa.Print
open Go.RowKit Go.Shelf Go.Proofs.YtbjinkkmakhbaaaW.PrintWords Go.Proofs.YtbjinkkmakhbaaaW.PrintLast Go.Proofs.YtbjinkkmakhbaaaW.PrintMore
set_option linter.unusedVariables false
set_option linter.unusedSimpArgs false
/-- Each choice of valves is a number. -/
theorem code_nat (X : Nat → Bool) : ∀ n : Nat, ∃ s, s < 2 ^ n ∧ ∀ p, p < n → s.testBit p = X p
  | 0 => ⟨0, by simp, by omega⟩
  | n + 1 => by
    obtain ⟨s, hs, h⟩ := code_nat X n
    have e : 2 ^ (n + 1) = 2 ^ n + 2 ^ n := by rw [Nat.pow_succ]; omega
    cases hx : X n
    · refine ⟨s, by omega, fun p hp => ?_⟩
      by_cases hpn : p = n
      · subst hpn
        rw [Nat.testBit_lt_two_pow hs, hx]
      · exact h p (by omega)
    · refine ⟨s ||| 2 ^ n, Nat.or_lt_two_pow (by omega) (by omega), fun p hp => ?_⟩
      rw [Nat.testBit_or, Nat.testBit_two_pow]
      by_cases hpn : p = n
      · subst hpn
        simp [hx]
      · rw [h p (by omega)]
        have : decide (n = p) = false := decide_eq_false (fun h => hpn h.symm)
        rw [this, Bool.or_false]
theorem may_congr {V : PipeMath.Valves} {n : Nat} {O O' : Nat → Bool} (h : ∀ k, k < n → O k = O' k) (hm : PipeMath.may V n O) : PipeMath.may V n O' := fun k hk => by
  rw [← h k hk]
  exact hm k hk
/-- The way back, as the trees have it. -/
theorem way_behind (js : List S50) (ms : List S54) (k : Nat) : ∀ j, (wayL ms j).contains (k : Int) = PipeMath.behind (netM js ms) k j
  | 0 => by rw [wayL, PipeMath.behind]; rfl
  | j + 1 => by
    rw [wayL, PipeMath.behind, List.contains_cons, way_behind js ms k (min (rd_T54 ms j).f0.toNat j)]
    have e : ((k : Int) == (j : Int)) = (j == k) := by
      rw [Bool.eq_iff_iff, beq_iff_eq, beq_iff_eq]
      omega
    rw [e]
    rfl
termination_by j => j
decreasing_by omega
theorem wayL_lt {ms : List S54} : ∀ (j : Nat) (x : Int), x ∈ wayL ms j → ∃ t : Nat, x = (t : Int) ∧ t < j
  | 0, x, h => by rw [wayL] at h; cases h
  | j + 1, x, h => by
    rw [wayL] at h
    rcases List.mem_cons.1 h with rfl | h
    · exact ⟨j, rfl, by omega⟩
    · obtain ⟨t, h1, h2⟩ := wayL_lt (min (rd_T54 ms j).f0.toNat j) x h
      exact ⟨t, h1, by omega⟩
termination_by j => j
decreasing_by omega
theorem statL_spec (ms : List S54) : ∀ (l : List Int) (o : Int), statL ms l o = if l.any (fun k => (rd_T54 ms k).f2 == 1) then 0 else if l.any (fun k => (rd_T54 ms k).f2 == 2) then 1 else o
  | [], o => rfl
  | k :: l, o => by
    rw [statL, statL_spec ms l]
    by_cases h1 : (rd_T54 ms k).f2 = 1
    · simp [h1]
    · by_cases h2 : (rd_T54 ms k).f2 = 2
      · simp [h1, h2]
      · simp [h1, h2]
theorem status_m (js : List S50) {ms : List S54} (hm : anyM 0 ms = false) {j : Nat} (hj : j ≤ ms.length) : statusP ms j = if PipeMath.fed (netM js ms) (valM ms).opn j = true then 2 else if PipeMath.fed (netM js ms) (PipeMath.allOpen (valM ms)) j = true then 1 else 0 := by
  unfold statusP
  rw [statL_spec]
  have key : ∀ x ∈ wayL ms j, ∃ t : Nat, x = (t : Int) ∧ t < ms.length ∧ PipeMath.behind (netM js ms) t j = true := fun x hx => by
    obtain ⟨t, h1, h2⟩ := wayL_lt j x hx
    refine ⟨t, h1, by omega, ?_⟩
    rw [← way_behind js ms t j, List.contains_iff_mem, ← h1]
    exact hx
  have key2 : ∀ t : Nat, PipeMath.behind (netM js ms) t j = true → (t : Int) ∈ wayL ms j := fun t h => by
    rw [← way_behind js ms t j, List.contains_iff_mem] at h
    exact h
  have h1 : PipeMath.fed (netM js ms) (PipeMath.allOpen (valM ms)) j = true ↔ ¬ (wayL ms j).any (fun k => (rd_T54 ms k).f2 == 1) = true := by
    rw [PipeMath.fed_iff, List.any_eq_true]
    constructor
    · rintro h ⟨x, hx, hv⟩
      obtain ⟨t, rfl, ht, hb⟩ := key x hx
      have h2 := h t hb
      simp only [PipeMath.allOpen, valM, Bool.or_eq_true, beq_iff_eq] at h2
      rw [beq_iff_eq] at hv
      omega
    · intro h t hb
      have hx := key2 t hb
      have ht : t < ms.length := by have := PipeMath.behind_lt (netM js ms) t j hb; omega
      have hr := (mains_ok hm t ht).2.2.1
      have h2 : ¬ (rd_T54 ms (t : Int)).f2 = 1 := fun e => h ⟨_, hx, by rw [beq_iff_eq]; exact e⟩
      simp only [PipeMath.allOpen, valM, Bool.or_eq_true, beq_iff_eq]
      omega
  have h2 : PipeMath.fed (netM js ms) (valM ms).opn j = true ↔ (¬ (wayL ms j).any (fun k => (rd_T54 ms k).f2 == 1) = true ∧ ¬ (wayL ms j).any (fun k => (rd_T54 ms k).f2 == 2) = true) := by
    rw [PipeMath.fed_iff, List.any_eq_true, List.any_eq_true]
    constructor
    · intro h
      refine ⟨?_, ?_⟩
      all_goals
        rintro ⟨x, hx, hv⟩
        obtain ⟨t, rfl, ht, hb⟩ := key x hx
        have h2 := h t hb
        simp only [valM, beq_iff_eq] at h2 hv
        omega
    · rintro ⟨ha, hb'⟩ t hb
      have hx := key2 t hb
      have ht : t < ms.length := by have := PipeMath.behind_lt (netM js ms) t j hb; omega
      have hr := (mains_ok hm t ht).2.2.1
      have h2 : ¬ (rd_T54 ms (t : Int)).f2 = 1 := fun e => ha ⟨_, hx, by rw [beq_iff_eq]; exact e⟩
      have h3 : ¬ (rd_T54 ms (t : Int)).f2 = 2 := fun e => hb' ⟨_, hx, by rw [beq_iff_eq]; exact e⟩
      simp only [valM, beq_iff_eq]
      omega
  by_cases a1 : (wayL ms j).any (fun k => (rd_T54 ms k).f2 == 1) = true
  · rw [if_pos a1, if_neg (fun h => (h2.1 h).1 a1), if_neg (fun h => h1.1 h a1)]
  · rw [if_neg a1]
    by_cases a2 : (wayL ms j).any (fun k => (rd_T54 ms k).f2 == 2) = true
    · rw [if_pos a2, if_neg (fun h => (h2.1 h).2 a2), if_pos (h1.2 a1)]
    · rw [if_neg a2, if_pos (h2.2 ⟨a1, a2⟩)]
/-- Is a set one that may be, and feeds a junction? -/
def goodB (js : List S50) (ms : List S54) (j s : Nat) : Bool := mayTo ms s ms.length 0 && PipeMath.fed (netM js ms) s.testBit j
def fedA1 (js : List S50) (ms : List S54) (j : Nat) : Nat → Bool
  | 0 => true
  | s + 1 => if mayTo ms s ms.length 0 then fedA1 js ms j s && PipeMath.fed (netM js ms) s.testBit j else fedA1 js ms j s
def fedS1 (js : List S50) (ms : List S54) (j : Nat) : Nat → Bool
  | 0 => false
  | s + 1 => if mayTo ms s ms.length 0 then fedS1 js ms j s || PipeMath.fed (netM js ms) s.testBit j else fedS1 js ms j s
theorem fedA1_iff (js : List S50) (ms : List S54) (j : Nat) : ∀ S, fedA1 js ms j S = true ↔ ∀ s, s < S → mayTo ms s ms.length 0 = true → PipeMath.fed (netM js ms) s.testBit j = true
  | 0 => by simp [fedA1]
  | S + 1 => by
    rw [fedA1]
    by_cases h : mayTo ms S ms.length 0 = true
    · rw [if_pos h, Bool.and_eq_true, fedA1_iff js ms j S]
      constructor
      · rintro ⟨h1, h2⟩ s hs hm
        by_cases e : s = S
        · rw [e]; exact h2
        · exact h1 s (by omega) hm
      · intro h1
        exact ⟨fun s hs => h1 s (by omega), h1 S (by omega) h⟩
    · rw [if_neg h, fedA1_iff js ms j S]
      constructor
      · intro h1 s hs hm
        by_cases e : s = S
        · rw [e] at hm; exact absurd hm h
        · exact h1 s (by omega) hm
      · intro h1 s hs
        exact h1 s (by omega)
theorem fedS1_iff (js : List S50) (ms : List S54) (j : Nat) : ∀ S, fedS1 js ms j S = true ↔ ∃ s, s < S ∧ mayTo ms s ms.length 0 = true ∧ PipeMath.fed (netM js ms) s.testBit j = true
  | 0 => by simp [fedS1]
  | S + 1 => by
    rw [fedS1]
    by_cases h : mayTo ms S ms.length 0 = true
    · rw [if_pos h, Bool.or_eq_true, fedS1_iff js ms j S]
      constructor
      · rintro (⟨s, h1, h2⟩ | h1)
        · exact ⟨s, by omega, h2⟩
        · exact ⟨S, by omega, h, h1⟩
      · rintro ⟨s, h1, h2, h3⟩
        by_cases e : s = S
        · rw [e] at h3; exact .inr h3
        · exact .inl ⟨s, by omega, h2, h3⟩
    · rw [if_neg h, fedS1_iff js ms j S]
      constructor
      · rintro ⟨s, h1, h2⟩
        exact ⟨s, by omega, h2⟩
      · rintro ⟨s, h1, h2, h3⟩
        by_cases e : s = S
        · rw [e] at h2; exact absurd h2 h
        · exact ⟨s, by omega, h2, h3⟩
theorem all_num (js : List S50) {ms : List S54} (hm : anyM 0 ms = false) {j : Nat} (hj : j ≤ ms.length) : fedA1 js ms j (2 ^ ms.length) = PipeMath.fed (netM js ms) (valM ms).opn j := by
  rw [Bool.eq_iff_iff, fedA1_iff, ← PipeMath.all_fed (netM js ms) (V := valM ms) hj]
  constructor
  · intro h O hO
    obtain ⟨s, hs, hb⟩ := code_nat O ms.length
    have h1 := h s hs ((mayTo_iff hm s).2 (may_congr (fun k hk => (hb k hk).symm) hO))
    rw [← h1]
    exact PipeMath.fed_congr _ j (fun k hk => (hb k (by omega)).symm)
  · intro h s hs hmay
    exact h _ ((mayTo_iff hm s).1 hmay)
theorem some_num (js : List S50) {ms : List S54} (hm : anyM 0 ms = false) {j : Nat} (hj : j ≤ ms.length) : fedS1 js ms j (2 ^ ms.length) = PipeMath.fed (netM js ms) (PipeMath.allOpen (valM ms)) j := by
  rw [Bool.eq_iff_iff, fedS1_iff, ← PipeMath.some_fed (netM js ms) (V := valM ms) hj]
  constructor
  · rintro ⟨s, hs, hmay, hf⟩
    exact ⟨_, (mayTo_iff hm s).1 hmay, hf⟩
  · rintro ⟨O, hO, hf⟩
    obtain ⟨s, hs, hb⟩ := code_nat O ms.length
    refine ⟨s, hs, (mayTo_iff hm s).2 (may_congr (fun k hk => (hb k hk).symm) hO), ?_⟩
    rw [← hf]
    exact PipeMath.fed_congr _ j (fun k hk => hb k (by omega))
theorem fed_l0 {lo hi : Int} {js : List S50} {ms : List S54} (hok : NetOk lo hi js ms) {j : Nat} (hj : j ≤ ms.length) : ∀ (d s k : Nat), s + d = 2 ^ ms.length → d + 60 ≤ k → gasworksref06_Fed.l0 k (j : Int) (fedA1 js ms j s) (fedS1 js ms j s) (s : Int) lo hi js ms = some (statusP ms j, 0)
  | 0, s, k, h, hk => by
    obtain ⟨k, rfl⟩ : ∃ k', k = k' + 1 := ⟨k - 1, by omega⟩
    have hn : ms.length ≤ 8 := by have := hok.ml; have := hok.jl; omega
    rw [gasworksref06_Fed.l0, power_ok (by omega) (by omega), Option.bind_some, if_neg (by omega)]
    obtain rfl : s = 2 ^ ms.length := by omega
    rw [all_num js hok.mok hj, some_num js hok.mok hj, status_m js hok.mok hj]
    generalize PipeMath.fed (netM js ms) (valM ms).opn j = b1
    generalize PipeMath.fed (netM js ms) (PipeMath.allOpen (valM ms)) j = b2
    cases b1 <;> cases b2 <;> simp
  | d + 1, s, k, h, hk => by
    obtain ⟨k, rfl⟩ : ∃ k', k = k' + 1 := ⟨k - 1, by omega⟩
    have hn : ms.length ≤ 8 := by have := hok.ml; have := hok.jl; omega
    have hp := pow16 (n := ms.length) (by omega)
    have ih := fed_l0 hok hj d (s + 1) k (by omega) (by omega)
    have hw : wrap64 ((s : Int) + 1) = ((s + 1 : Nat) : Int) := by rw [w64 (by omega) (by omega)]; omega
    rw [gasworksref06_Fed.l0, power_ok (by omega) (by omega), Option.bind_some, if_pos (by omega), may_ok hok (by omega) (by omega), Option.bind_some, is_ok hok (by omega) j k hj (by omega), hw]
    rw [fedA1, fedS1] at ih
    cases hm : mayTo ms s ms.length 0
    · rw [hm] at ih
      rw [if_neg (by simp)]
      simpa using ih
    · rw [hm] at ih
      rw [if_pos rfl]
      cases h1 : fedA1 js ms j s
      · rw [h1] at ih
        cases h2 : fedS1 js ms j s
        · rw [h2] at ih
          simpa using ih
        · rw [h2] at ih
          simpa using ih
      · rw [h1] at ih
        cases h2 : fedS1 js ms j s
        · rw [h2] at ih
          simpa using ih
        · rw [h2] at ih
          simpa using ih
end Go.Proofs.Ytbjinkkmakhbaaa.Print

namespace Go.Proofs.Ytbjinkkmakhbaaa.Print
open Go.RowKit Go.Shelf Go.Proofs.YtbjinkkmakhbaaaW.PrintWords Go.Proofs.YtbjinkkmakhbaaaW.PrintLast Go.Proofs.YtbjinkkmakhbaaaW.PrintMore
set_option linter.unusedVariables false
set_option linter.unusedSimpArgs false
def needL (js : List S50) (d : Bool) : List Int := js.map (fun y => endE d y.f0)
theorem rd_needL (js : List S50) (d : Bool) (j : Nat) : rd (needL js d) j = needM js d j := by
  unfold rd needL needM rd_T50
  rw [Int.toNat_natCast, List.getD_eq_getElem?_getD, List.getD_eq_getElem?_getD, List.getElem?_map]
  cases h : js[j]?
  · cases d <;> rfl
  · rfl
theorem need_ok {lo hi : Int} {js : List S50} {ms : List S54} (hok : NetOk lo hi js ms) (d : Bool) : DrawnOk js (needL js d) := by
  refine ⟨by simp [needL], fun j => ?_⟩
  rw [rd_needL]
  have := junction_ok hok.jok j
  unfold needM endE
  cases d <;> simp <;> omega
theorem at_need (N : PipeMath.Net) (O : Nat → Bool) (js : List S50) (d : Bool) (src : Int) (j : Nat) : PipeMath.at_ N O (fun j => rd (needL js d) j) src j = PipeMath.at_ N O (needM js d) src j := by
  have e : (fun j : Nat => rd (needL js d) j) = needM js d := by
    funext j
    exact rd_needL js d j
  rw [e]
/-- The least and the greatest over the sets below one. -/
def prTo (lo hi : Int) (js : List S50) (ms : List S54) (j : Nat) : Nat → Int × Int × Bool
  | 0 => (0, 0, false)
  | s + 1 => if goodB js ms j s = true then
      (if (prTo lo hi js ms j s).2.2 = true then (mn (prTo lo hi js ms j s).1 (PipeMath.at_ (netM js ms) s.testBit (needM js true) lo j), mx (prTo lo hi js ms j s).2.1 (PipeMath.at_ (netM js ms) s.testBit (needM js false) hi j), true)
       else (mn (PipeMath.at_ (netM js ms) s.testBit (needM js true) lo j) (PipeMath.at_ (netM js ms) s.testBit (needM js true) lo j), mx (PipeMath.at_ (netM js ms) s.testBit (needM js false) hi j) (PipeMath.at_ (netM js ms) s.testBit (needM js false) hi j), true))
    else prTo lo hi js ms j s
theorem press_l1 {lo hi : Int} {js : List S50} {ms : List S54} (hok : NetOk lo hi js ms) {j : Nat} (hj : j ≤ ms.length) : ∀ (d s k : Nat), s + d = 2 ^ ms.length → 2 * d + 130 ≤ k → gasworksref06_press.l1 k (j : Int) (needL js false) (needL js true) (prTo lo hi js ms j s).2.2 (s : Int) lo hi js ms (prTo lo hi js ms j s).1 (prTo lo hi js ms j s).2.1 = some (prTo lo hi js ms j (2 ^ ms.length))
  | 0, s, k, h, hk => by
    obtain ⟨k, rfl⟩ : ∃ k', k = k' + 1 := ⟨k - 1, by omega⟩
    have hn : ms.length ≤ 8 := by have := hok.ml; have := hok.jl; omega
    rw [gasworksref06_press.l1, power_ok (by omega) (by omega), Option.bind_some, if_neg (by omega)]
    obtain rfl : s = 2 ^ ms.length := by omega
    rfl
  | d + 1, s, k, h, hk => by
    obtain ⟨k, rfl⟩ : ∃ k', k = k' + 1 + 1 := ⟨k - 2, by omega⟩
    have hn : ms.length ≤ 8 := by have := hok.ml; have := hok.jl; omega
    have hp := pow16 (n := ms.length) (by omega)
    have ih := press_l1 hok hj d (s + 1) k (by omega) (by omega)
    have hw : wrap64 ((s : Int) + 1) = ((s + 1 : Nat) : Int) := by rw [w64 (by omega) (by omega)]; omega
    have hsrc := hok.src
    rw [prTo] at ih
    have hj2t : ∀ f a b, gasworksref06_press.j2 (k + 1) (j : Int) (needL js false) (needL js true) f (s : Int) true lo hi js ms a b = gasworksref06_press.l1 k (j : Int) (needL js false) (needL js true) f ((s + 1 : Nat) : Int) lo hi js ms a b := fun f a b => by
      rw [gasworksref06_press.j2, if_pos rfl, hw]
    rw [gasworksref06_press.l1, power_ok (by omega) (by omega), Option.bind_some, if_pos (by omega), may_ok hok (by omega) (by omega), Option.bind_some, is_ok hok (by omega) j (k + 1) hj (by omega)]
    cases hm : mayTo ms s ms.length 0
    · have hg : goodB js ms j s = false := by unfold goodB; rw [hm]; rfl
      rw [if_neg (by rw [hg]; simp)] at ih
      rw [if_neg (by simp), hj2t]
      exact ih
    · rw [if_pos rfl, Option.bind_some]
      cases hf : PipeMath.fed (netM js ms) s.testBit j
      · have hg : goodB js ms j s = false := by unfold goodB; rw [hm, hf]; rfl
        rw [if_neg (by rw [hg]; simp)] at ih
        rw [Bool.not_false, hj2t]
        exact ih
      · have hg : goodB js ms j s = true := by unfold goodB; rw [hm, hf]; rfl
        rw [if_pos hg] at ih
        rw [Bool.not_true, gasworksref06_press.j2, if_neg (by simp), at_ok hok (by omega) (need_ok hok true) (by omega) (by omega) j k hj (by omega), Option.bind_some, at_ok hok (by omega) (need_ok hok false) (by omega) (by omega) j k hj (by omega), Option.bind_some, at_need, at_need, hw]
        cases hfd : (prTo lo hi js ms j s).2.2
        · rw [if_neg (by rw [hfd]; simp)] at ih
          rw [if_neg (by simp)]
          exact ih
        · rw [if_pos hfd] at ih
          rw [if_pos rfl]
          exact ih
theorem press_l0 {lo hi : Int} {js : List S50} {ms : List S54} (hok : NetOk lo hi js ms) {j : Nat} (hj : j ≤ ms.length) : ∀ (d i k : Nat), i + d = js.length → d + 2 * 2 ^ ms.length + 140 ≤ k → gasworksref06_press.l0 k (j : Int) (needL (js.take i) false) (needL (js.take i) true) (i : Int) lo hi js ms = some (prTo lo hi js ms j (2 ^ ms.length))
  | 0, i, k, h, hk => by
    obtain ⟨k, rfl⟩ : ∃ k', k = k' + 1 := ⟨k - 1, by omega⟩
    obtain rfl : i = js.length := by omega
    rw [gasworksref06_press.l0, if_neg (by omega), List.take_length]
    exact press_l1 hok hj (2 ^ ms.length) 0 k (by omega) (by omega)
  | d + 1, i, k, h, hk => by
    obtain ⟨k, rfl⟩ : ∃ k', k = k' + 1 := ⟨k - 1, by omega⟩
    have hjl := hok.jl
    have ih := press_l0 hok hj d (i + 1) k (by omega) (by omega)
    have hw : wrap64 ((i : Int) + 1) = ((i + 1 : Nat) : Int) := by rw [w64 (by omega) (by omega)]; omega
    have e : ∀ b, needL (js.take (i + 1)) b = needL (js.take i) b ++ [endE b (rd_T50 js i).f0] := fun b => by
      unfold needL
      rw [List.take_succ_eq_append_getElem (by omega), List.map_append, rd_T50_eq _ _ (by omega)]
      rfl
    have hl : ∀ b, (needL (js.take i) b).length ≤ 9 := fun b => by
      unfold needL
      rw [List.length_map, List.length_take]
      omega
    rw [e, e] at ih
    rw [gasworksref06_press.l0, if_pos (by omega), if_pos (by omega), if_pos (by have := hl false; omega), if_pos (by have := hl true; omega), hw]
    exact ih
theorem press_ok {lo hi : Int} {js : List S50} {ms : List S54} (hok : NetOk lo hi js ms) {j : Nat} (hj : j ≤ ms.length) {k : Nat} (hk : 700 ≤ k) : gasworksref06_press.f k lo hi js ms (j : Int) = some (prTo lo hi js ms j (2 ^ ms.length)) := by
  have hjl := hok.jl
  have hml := hok.ml
  have hp : 2 ^ ms.length ≤ 256 := Nat.le_trans (Nat.pow_le_pow_right (n := 2) (by decide) (show ms.length ≤ 8 by omega)) (by decide)
  exact press_l0 hok hj js.length 0 k (by omega) (by omega)
/-- What the walk over all sets finds. -/
structure PrI (lo hi : Int) (js : List S50) (ms : List S54) (j S : Nat) (r : Int × Int × Bool) : Prop where
  no : r.2.2 = false → r = (0, 0, false) ∧ ∀ s, s < S → goodB js ms j s = false
  le : r.2.2 = true → ∀ s, s < S → goodB js ms j s = true → r.1 ≤ PipeMath.at_ (netM js ms) s.testBit (needM js true) lo j ∧ PipeMath.at_ (netM js ms) s.testBit (needM js false) hi j ≤ r.2.1
  lo_ : r.2.2 = true → ∃ s, s < S ∧ goodB js ms j s = true ∧ r.1 = PipeMath.at_ (netM js ms) s.testBit (needM js true) lo j
  hi_ : r.2.2 = true → ∃ s, s < S ∧ goodB js ms j s = true ∧ r.2.1 = PipeMath.at_ (netM js ms) s.testBit (needM js false) hi j
theorem prTo_i (lo hi : Int) (js : List S50) (ms : List S54) (j : Nat) : ∀ S, PrI lo hi js ms j S (prTo lo hi js ms j S)
  | 0 => ⟨fun _ => ⟨rfl, by omega⟩, fun h => (by cases h), fun h => (by cases h), fun h => (by cases h)⟩
  | S + 1 => by
    have ih := prTo_i lo hi js ms j S
    rw [prTo]
    by_cases hg : goodB js ms j S = true
    · rw [if_pos hg]
      cases hf : (prTo lo hi js ms j S).2.2
      · obtain ⟨_, hno⟩ := ih.no hf
        rw [if_neg (by simp)]
        have only : ∀ s, s < S + 1 → goodB js ms j s = true → s = S := fun s hs h => by
          by_cases e : s = S
          · exact e
          · have := hno s (by omega)
            rw [h] at this
            cases this
        refine ⟨fun h => (by cases h), fun _ s hs h => ?_, fun _ => ⟨S, by omega, hg, ?_⟩, fun _ => ⟨S, by omega, hg, ?_⟩⟩
        · rw [only s hs h]
          unfold mn mx
          simp
        · unfold mn
          simp
        · unfold mx
          simp
      · rw [if_pos rfl]
        obtain ⟨s1, a1, a2, a3⟩ := ih.lo_ hf
        obtain ⟨s2, b1, b2, b3⟩ := ih.hi_ hf
        have hle := ih.le hf
        refine ⟨fun h => (by cases h), fun _ s hs h => ?_, fun _ => ?_, fun _ => ?_⟩
        · show mn _ _ ≤ _ ∧ _ ≤ mx _ _
          unfold mn mx
          by_cases e : s = S
          · rw [e]
            refine ⟨?_, ?_⟩ <;> split <;> omega
          · have := hle s (by omega) h
            refine ⟨?_, ?_⟩ <;> split <;> omega
        · show ∃ s, s < S + 1 ∧ goodB js ms j s = true ∧ mn _ _ = _
          unfold mn
          split
          · exact ⟨S, by omega, hg, rfl⟩
          · exact ⟨s1, by omega, a2, a3⟩
        · show ∃ s, s < S + 1 ∧ goodB js ms j s = true ∧ mx _ _ = _
          unfold mx
          split
          · first | exact ⟨s2, by omega, b2, b3⟩ | exact ⟨S, by omega, hg, rfl⟩
          · first | exact ⟨S, by omega, hg, rfl⟩ | exact ⟨s2, by omega, b2, b3⟩
    · rw [if_neg hg]
      have hgf : goodB js ms j S = false := by simpa using hg
      refine ⟨fun h => ⟨(ih.no h).1, fun s hs => ?_⟩, fun h s hs hh => ?_, fun h => ?_, fun h => ?_⟩
      · by_cases e : s = S
        · rw [e]; exact hgf
        · exact (ih.no h).2 s (by omega)
      · by_cases e : s = S
        · rw [e] at hh; exact absurd hh hg
        · exact ih.le h s (by omega) hh
      · obtain ⟨s, a, b⟩ := ih.lo_ h
        exact ⟨s, by omega, b⟩
      · obtain ⟨s, a, b⟩ := ih.hi_ h
        exact ⟨s, by omega, b⟩
theorem need_nn {lo hi : Int} {js : List S50} {ms : List S54} (hok : NetOk lo hi js ms) (d : Bool) (j : Nat) : 0 ≤ needM js d j := by
  have := (need_ok hok d).2 j
  rw [rd_needL] at this
  exact this.1
theorem openQ_all (ms : List S54) (j k : Nat) : openQ ms true j k = PipeMath.allOpen (valM ms) k := by
  unfold openQ PipeMath.allOpen valM
  simp
theorem openQ_way (js : List S50) (ms : List S54) (j k : Nat) : openQ ms false j k = PipeMath.onlyWay (netM js ms) (valM ms) j k := by
  unfold openQ PipeMath.onlyWay valM
  rw [way_behind js ms k j]
  simp
theorem loP_m {lo hi : Int} {js : List S50} {ms : List S54} (hok : NetOk lo hi js ms) {j : Nat} (hj : j ≤ ms.length) : loP js ms lo j = PipeMath.at_ (netM js ms) (PipeMath.allOpen (valM ms)) (needM js true) lo j := by
  unfold loP
  rw [press_m js hok.mok true true j lo j hj]
  exact PipeMath.at_congr _ _ (fun k _ => openQ_all ms j k) (fun _ _ => rfl) j
theorem hiP_m {lo hi : Int} {js : List S50} {ms : List S54} (hok : NetOk lo hi js ms) {j : Nat} (hj : j ≤ ms.length) : hiP js ms hi j = PipeMath.at_ (netM js ms) (PipeMath.onlyWay (netM js ms) (valM ms) j) (needM js false) hi j := by
  unfold hiP
  rw [press_m js hok.mok false false j hi j hj]
  exact PipeMath.at_congr _ _ (fun k _ => openQ_way js ms j k) (fun _ _ => rfl) j
/-- The document's least and greatest are the code's. -/
theorem prTo_spec {lo hi : Int} {js : List S50} {ms : List S54} (hok : NetOk lo hi js ms) {j : Nat} (hj : j ≤ ms.length) : prTo lo hi js ms j (2 ^ ms.length) = if PipeMath.fed (netM js ms) (PipeMath.allOpen (valM ms)) j = true then (loP js ms lo j, hiP js ms hi j, true) else (0, 0, false) := by
  have hI := prTo_i lo hi js ms j (2 ^ ms.length)
  have good : ∀ s, s < 2 ^ ms.length → (goodB js ms j s = true ↔ (PipeMath.may (valM ms) ms.length s.testBit ∧ PipeMath.fed (netM js ms) s.testBit j = true)) := fun s _ => by
    unfold goodB
    rw [Bool.and_eq_true, mayTo_iff hok.mok]
  have num : ∀ O, PipeMath.may (valM ms) ms.length O → PipeMath.fed (netM js ms) O j = true → ∃ s, s < 2 ^ ms.length ∧ goodB js ms j s = true ∧ (∀ k, k < ms.length → s.testBit k = O k) := fun O hO hf => by
    obtain ⟨s, hs, hb⟩ := code_nat O ms.length
    refine ⟨s, hs, (good s hs).2 ⟨may_congr (fun k hk => (hb k hk).symm) hO, ?_⟩, hb⟩
    rw [← hf]
    exact PipeMath.fed_congr _ j (fun k hk => hb k (by omega))
  by_cases hfed : PipeMath.fed (netM js ms) (PipeMath.allOpen (valM ms)) j = true
  · rw [if_pos hfed]
    obtain ⟨s1, hs1, hg1, hb1⟩ := num _ (PipeMath.may_all (netM js ms)) hfed
    have hwf := PipeMath.way_fed (netM js ms) hfed
    obtain ⟨s2, hs2, hg2, hb2⟩ := num _ (PipeMath.may_way (netM js ms) j) hwf
    have hft : (prTo lo hi js ms j (2 ^ ms.length)).2.2 = true := by
      cases h : (prTo lo hi js ms j (2 ^ ms.length)).2.2
      · have := (hI.no h).2 s1 hs1
        rw [hg1] at this
        cases this
      · rfl
    obtain ⟨t1, ht1, hgt1, e1⟩ := hI.lo_ hft
    obtain ⟨t2, ht2, hgt2, e2⟩ := hI.hi_ hft
    have l1 := (hI.le hft s1 hs1 hg1).1
    have l2 := (hI.le hft s2 hs2 hg2).2
    have c1 : PipeMath.at_ (netM js ms) s1.testBit (needM js true) lo j = loP js ms lo j := by
      rw [loP_m hok hj]
      exact PipeMath.at_congr _ _ (fun k hk => hb1 k hk) (fun _ _ => rfl) j
    have c2 : PipeMath.at_ (netM js ms) s2.testBit (needM js false) hi j = hiP js ms hi j := by
      rw [hiP_m hok hj]
      exact PipeMath.at_congr _ _ (fun k hk => hb2 k hk) (fun _ _ => rfl) j
    have g1 := PipeMath.least_at (netM js ms) (d := needM js true) (s := lo) ((good t1 ht1).1 hgt1).1 (need_nn hok true) j
    have g2 := PipeMath.most_at (netM js ms) (d := needM js false) (s := hi) ((good t2 ht2).1 hgt2).1 ((good t2 ht2).1 hgt2).2 (need_nn hok false)
    rw [← loP_m hok hj] at g1
    rw [← hiP_m hok hj] at g2
    have r1 : (prTo lo hi js ms j (2 ^ ms.length)).1 = loP js ms lo j := by omega
    have r2 : (prTo lo hi js ms j (2 ^ ms.length)).2.1 = hiP js ms hi j := by omega
    rw [← r1, ← r2, ← hft]
  · rw [if_neg hfed]
    have hff : (prTo lo hi js ms j (2 ^ ms.length)).2.2 = false := by
      cases h : (prTo lo hi js ms j (2 ^ ms.length)).2.2
      · rfl
      · obtain ⟨s, hs, hg, _⟩ := hI.lo_ h
        have := (good s hs).1 hg
        exact absurd ((PipeMath.some_fed (netM js ms) (V := valM ms) hj).1 ⟨_, this.1, this.2⟩) hfed
    exact (hI.no hff).1
theorem status_zero (js : List S50) {ms : List S54} (hm : anyM 0 ms = false) {j : Nat} (hj : j ≤ ms.length) : statusP ms j = 0 ↔ ¬ PipeMath.fed (netM js ms) (PipeMath.allOpen (valM ms)) j = true := by
  rw [status_m js hm hj]
  constructor
  · intro h hf
    rw [if_pos hf] at h
    split at h <;> omega
  · intro h
    rw [if_neg h, if_neg]
    intro h2
    exact h (PipeMath.fed_mono _ (fun k hk => by unfold PipeMath.allOpen; rw [hk]; rfl) j h2)
end Go.Proofs.Ytbjinkkmakhbaaa.Print
