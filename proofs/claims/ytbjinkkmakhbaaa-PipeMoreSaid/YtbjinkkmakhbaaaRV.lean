/- The document's With and list, in the code's words. -/
import Derived.Test.YtbjinkkmakhbaaaRU
import Derived.Test.YtbjinkkmakhbaaaRW
import Derived.Test.YtbjinkkmakhbaaaRL
namespace Go.Proofs.Ytbjinkkmakhbaaa.Print
open Go.RowKit Go.Shelf Go.Proofs.YtbjinkkmakhbaaaW.PrintWords Go.Proofs.YtbjinkkmakhbaaaW.PrintLast Go.Proofs.YtbjinkkmakhbaaaW.PrintMore
set_option linter.unusedVariables false
set_option linter.unusedSimpArgs false
theorem NetOk.few {lo hi : Int} {js : List S50} {ms : List S54} (h : NetOk lo hi js ms) : ms.length ≤ 8 := by have := h.ml; have := h.jl; omega
theorem with_l0 {lo hi : Int} {js : List S50} {ms : List S54} (hok : NetOk lo hi js ms) {s : Nat} (hs : s < 65536) : ∀ (d i k : Nat), i + d = ms.length → d + 20 ≤ k → gasworksref06_With.l0 k (s : Int) (i : Int) lo hi js (layK s ms i) = some (lo, hi, js, withN s 0 ms)
  | 0, i, k, h, hk => by
    obtain ⟨k, rfl⟩ : ∃ k', k = k' + 1 := ⟨k - 1, by omega⟩
    rw [gasworksref06_With.l0, if_neg (by rw [layK_len]; omega)]
    obtain rfl : i = ms.length := by omega
    rw [layK_all]
  | d + 1, i, k, h, hk => by
    obtain ⟨k, rfl⟩ : ∃ k', k = k' + 1 := ⟨k - 1, by omega⟩
    have hl := hok.few
    have ih := with_l0 hok hs d (i + 1) k (by omega) (by omega)
    have hw : wrap64 ((i : Int) + 1) = ((i + 1 : Nat) : Int) := by rw [w64 (by omega) (by omega)]; omega
    have hi : i < ms.length := by omega
    have hm := mains_ok hok.mok i hi
    have e1 : wrap64 ((rd_T54 ms i).f1 + 1) = (rd_T54 ms i).f1 + 1 := w64 (by omega) (by omega)
    have e2 : wrap64 (Int.tdiv ((rd_T54 ms i).f1 + 1) 2) = Int.tdiv ((rd_T54 ms i).f1 + 1) 2 := by
      rw [Int.tdiv_eq_ediv_of_nonneg (by omega)]
      exact w64 (by omega) (by omega)
    rw [gasworksref06_With.l0, if_pos (by rw [layK_len]; omega), has_ok hs (by omega) (by omega), Option.bind_some]
    cases hb : s.testBit i
    · rw [if_neg (by simp), hw, ← ih, layK_succ s ms i hi, hb, if_neg (by simp)]
    · rw [if_pos rfl, if_pos (by omega), hw, ← ih, layK_succ s ms i hi, hb, if_pos rfl, layK_get s ms i hi, e1, e2, Int.toNat_natCast]
      rfl
theorem with_ok {lo hi : Int} {js : List S50} {ms : List S54} (hok : NetOk lo hi js ms) {s : Nat} (hs : s < 65536) : gasworksref06_With.f 40 lo hi js ms (s : Int) = some (lo, hi, js, withN s 0 ms) := by
  have hl := hok.few
  have h := with_l0 hok hs ms.length 0 40 (by omega) (by omega)
  rw [layK_0] at h
  unfold gasworksref06_With.f
  rw [Option.bind_some, if_pos (by simp; omega), List.nil_append]
  exact h
theorem heap54 : Kd.Heap k54 := Kd.heap_iso _ (Kd.heap_pair (Kd.heap_int _) (Kd.heap_pair (Kd.heap_int _) (Kd.heap_pair (Kd.heap_int _) (Kd.heap_int _))))
theorem rWith_any {lo hi : Int} {A : Option Addr} {c : Nat} {js : List S50} {A' : Option Addr} {c' : Nat} {ms : List S54} (hok : NetOk lo hi js ms) {s : Nat} (hs : s < 65536) (w : World) (hr' : Kd.C k54 w A' ms.length ms) (hc' : ms.length ≤ c') :
    Calls Try.prog 28 #[.agg #[.int .i64 lo, .int .i64 hi, .slice A js.length c, .slice A' ms.length c'], .int .i64 (s : Int)] w fun e w' => ∃ (B : Option Addr) (d : Nat), e = .returned (.agg #[.int .i64 lo, .int .i64 hi, .slice A js.length c, .slice B (withN s 0 ms).length d]) ∧ Kd.C k54 w' B (withN s 0 ms).length (withN s 0 ms) ∧ (withN s 0 ms).length ≤ d ∧ Below w.heap.size w w' := by
  refine (With_calls 40 lo hi (fun _ => False) A c js A' c' ms (s : Int) lo hi js (withN s 0 ms) w w (Below.refl _ _) (Kd.C_kept_came heap54 hr' (Below.refl _ _) (fun _ h => h.elim)) hc' (with_ok hok hs)).mono ?_
  rintro e w' ⟨v, rfl, hR, hb, _⟩
  obtain ⟨B, d, rfl, hd, hC⟩ := Kd.R_reads hR
  exact ⟨B, d, rfl, hC, hd, hb⟩
theorem listL_low {s n : Nat} (hs : s < 2 ^ n) : ∀ k, n ≤ k → listL s k = listL s n
  | 0, h => by rw [show n = 0 by omega]
  | k + 1, h => by
    by_cases e : n = k + 1
    · rw [e]
    · rw [listL, listL_low hs k (by omega), Nat.testBit_lt_two_pow (Nat.lt_of_lt_of_le hs (Nat.pow_le_pow_right (by decide) (by omega)))]
      simp
theorem list_l0 {lo hi : Int} {js : List S50} {ms : List S54} (hok : NetOk lo hi js ms) {s : Nat} (hs : s < 65536) : ∀ (d i k : Nat), i + d = ms.length → d + 20 ≤ k → gasworksref06_list.l0 k (s : Int) (listL s i) (costN s 0 (ms.take i)) (i : Int) lo hi js ms = some (listL s ms.length, costN s 0 ms)
  | 0, i, k, h, hk => by
    obtain ⟨k, rfl⟩ : ∃ k', k = k' + 1 := ⟨k - 1, by omega⟩
    rw [gasworksref06_list.l0, if_neg (by omega)]
    obtain rfl : i = ms.length := by omega
    rw [List.take_length]
  | d + 1, i, k, h, hk => by
    obtain ⟨k, rfl⟩ : ∃ k', k = k' + 1 := ⟨k - 1, by omega⟩
    have hl := hok.few
    have ih := list_l0 hok hs d (i + 1) k (by omega) (by omega)
    have hw : wrap64 ((i : Int) + 1) = ((i + 1 : Nat) : Int) := by rw [w64 (by omega) (by omega)]; omega
    have hi : i < ms.length := by omega
    have hm := mains_ok hok.mok i hi
    have hcb := cost_bd s hok.mok i hi
    have hll := listL_len s i
    have e1 : wrap64 (costN s 0 (ms.take i) + (rd_T54 ms i).f3) = costN s 0 (ms.take i) + (rd_T54 ms i).f3 := w64 (by omega) (by omega)
    rw [cost_succ s ms i hi, listL] at ih
    rw [gasworksref06_list.l0, if_pos (by omega), has_ok hs (by omega) (by omega), Option.bind_some]
    cases hb : s.testBit i
    · rw [if_neg (by simp), hw, ← ih, hb]
      simp
    · rw [if_pos rfl, if_pos (by omega), if_pos (by omega), hw, ← ih, hb, if_pos rfl, if_pos rfl, e1]
theorem list_ok {lo hi : Int} {js : List S50} {ms : List S54} (hok : NetOk lo hi js ms) {s : Nat} (hs : s < 65536) {k : Nat} (hk : 40 ≤ k) : gasworksref06_list.f k lo hi js ms (s : Int) = some (listL s ms.length, costN s 0 ms) := by
  have hl := hok.few
  have h := list_l0 hok hs ms.length 0 k (by omega) (by omega)
  rw [List.take_zero] at h
  exact h
end Go.Proofs.Ytbjinkkmakhbaaa.Print
