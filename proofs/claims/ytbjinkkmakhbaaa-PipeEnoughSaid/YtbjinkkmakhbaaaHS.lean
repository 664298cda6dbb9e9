/- Has and power leave the world as it is. -/
import Derived.Test.YtbjinkkmakhbaaaRP
namespace Go.Proofs.Ytbjinkkmakhbaaa.Print
open Go.RowKit Go.Shelf Go.Proofs.YtbjinkkmakhbaaaW.PrintWords Go.Proofs.YtbjinkkmakhbaaaW.PrintLast Go.Proofs.YtbjinkkmakhbaaaW.PrintMore
set_option linter.unusedVariables false
set_option linter.unusedSimpArgs false
theorem power_same (n q : Nat) (HQ : Aside0 (q = 2 ^ n)) (hn : n ≤ 16) (w : World) : Calls Try.prog 38 #[.int .i64 (n : Int)] w fun e w' => e = .returned (.int .i64 (q : Int)) ∧ w = w' := by
  go_enter Try.func38, Try.ntmps38
  go_wp2
  go_loop [3, 4] (fun o i => ∃ k p : Nat, k ≤ n ∧ i = .int .i64 (k : Int) ∧ o = .int .i64 (p : Int) ∧ Aside0 (p = 2 ^ k)) (fun _ i => n - (intOf i).toNat)
  case atStart => exact ⟨0, 1, by omega, rfl, rfl, ⟨rfl⟩⟩
  case round =>
    obtain ⟨k, p, hk, rfl, rfl, HP⟩ := hrel
    by_cases hlt : k < n
    · have hp : p ≤ 32768 := by rw [HP.out]; exact Nat.le_trans (Nat.pow_le_pow_right (by decide) (by omega : k ≤ 15)) (by decide)
      have HN : Aside0 (2 * p = 2 ^ (k + 1)) := ⟨by rw [HP.out, Nat.pow_succ]; omega⟩
      go_wp2
      go_round
      case rel => exact ⟨k + 1, 2 * p, by omega, by go_num, by go_num, HN⟩
      case measure => simp [intOf]; omega
    · have e : k = n := by omega
      obtain rfl : p = q := by rw [HP.out, HQ.out, e]
      clear e
      go_wp2
      go_ret
      exact ⟨rfl, rfl⟩
theorem has_same (s k : Nat) (hs : s < 65536) (hk : k ≤ 16) (w : World) : Calls Try.prog 29 #[.int .i64 (s : Int), .int .i64 (k : Int)] w fun e w' => e = .returned (.bool (s.testBit k)) ∧ w = w' := by
  have hpos : 0 < 2 ^ k := Nat.pow_pos (by decide)
  have h1 : 2 ^ k ≤ 65536 := Nat.le_trans (Nat.pow_le_pow_right (by decide) hk) (by decide)
  have hb : s.testBit k = decide (s / 2 ^ k % 2 = 1) := Nat.testBit_eq_decide_div_mod_eq
  rw [hb]
  clear hb
  obtain ⟨p, hp⟩ : ∃ p, p = 2 ^ k := ⟨_, rfl⟩
  have HP := power_same k p ⟨hp⟩ hk w
  rw [← hp] at hpos h1 ⊢
  clear hp
  have hp0 : ((p : Int) == 0) = false := by rw [beq_eq_false_iff_ne]; omega
  have H := Aside0.mk HP
  clear HP
  go_enter Try.func29, Try.ntmps29
  go_wp2_with (go_at_call 38; (with_reducible refine H.out.mono ?_); rintro e w' ⟨rfl, rfl⟩)
  go_ret
  refine ⟨?_, rfl⟩
  show Ending.returned (.bool ((wrap64 ((s : Int) / (p : Int))).tmod 2 == 1)) = _
  have e : ((s : Int) / (p : Int)) = ((s / p : Nat) : Int) := by rw [Int.natCast_ediv]
  have h2 : s / p ≤ s := Nat.div_le_self _ _
  rw [e]
  generalize s / p = q at h2
  rw [w64 (by omega) (by omega), Int.tmod_eq_emod_of_nonneg (by omega)]
  congr 2
  rw [Bool.eq_iff_iff, beq_iff_eq, decide_eq_true_eq]
  omega
end Go.Proofs.Ytbjinkkmakhbaaa.Print
