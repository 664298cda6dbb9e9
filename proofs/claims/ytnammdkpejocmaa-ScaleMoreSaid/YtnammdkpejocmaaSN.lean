/- Dearest: the search for the first price whose rate is too low. -/
import Derived.Test.YtnammdkpejocmaaSB
import Derived.Deep.LoopGhost
import Derived.Shelf.Abstract
namespace Go.Proofs.Ytnammdkpejocmaa.Print
open Go.RowKit Go.Proofs.YtnammdkpejocmaaW.PrintWords Go.Proofs.YtnammdkpejocmaaW.PrintLast Go.Proofs.YtnammdkpejocmaaW.PrintMore
set_option linter.unusedVariables false
set_option linter.unusedSimpArgs false
attribute [local go_sem] Oper.semAt_some

theorem countP_prefix (p : Nat → Bool) (k : Nat) : ∀ n, k ≤ n → (∀ t, t < k → p t = false) → (∀ t, k ≤ t → t < n → p t = true) → (List.range n).countP (fun i => !p i) = k
  | 0, h, _, _ => by simp; omega
  | n + 1, h, h1, h2 => by
    rw [List.range_succ, List.countP_append]
    by_cases hk : k ≤ n
    · rw [countP_prefix p k n hk h1 (fun t a b => h2 t a (by omega))]
      have := h2 n hk (by omega)
      simp [this]
    · obtain rfl : k = n + 1 := by omega
      have e : (List.range n).countP (fun i => !p i) = n := countP_prefix p n n (Nat.le_refl _) (fun t a => h1 t (by omega)) (fun t a b => by omega)
      have := h1 n (by omega)
      rw [e]
      simp [this]

set_option maxHeartbeats 4000000 in
theorem search_any (cb : Array Value) (n : Nat) (p : Nat → Bool) (w : World) (hsz : n < 4611686018427387904)
    (hf : ∀ (W : World) (i : Nat), Below w.heap.size w W → i < n → Calls Try.prog 31 (#[.int .i64 i] ++ cb) W fun e w' => e = .returned (.bool (p i)) ∧ Below W.heap.size W w')
    (hmono : ∀ a b, a ≤ b → b < n → p a = true → p b = true) :
    Calls Try.prog 30 #[.int .i64 n, .func (.func 31) #[] cb] w fun e w' => e = .returned (.int .i64 ((List.range n).countP (fun i => !p i) : Nat)) ∧ Below w.heap.size w w' := by
  have eg : ∀ args w, (callFunc 31 args).run Try.prog w = .ok (.enter 31 args) w := enters_of Try.func31 (by kernel_rfl) rfl
  have HF := Aside0.mk hf
  have M := Aside0.mk hmono
  clear hf hmono
  generalize hcnt : (List.range n).countP (fun i => !p i) = cnt
  have CN := Aside0.mk hcnt
  clear hcnt
  have HB0 := Aside0.mk (Below.refl w.heap.size w)
  go_enter Try.func30, Try.ntmps30
  go_wp2
  go_loopg [5, 6] n (fun kx s5 s6 wr => ∃ (lo hi : Nat), s5 = .int .i64 lo ∧ s6 = .int .i64 hi ∧ lo ≤ hi ∧ hi ≤ n ∧ hi - lo ≤ kx ∧ Aside0 (Below w.heap.size w wr) ∧
    Aside0 ((∀ t, t < lo → p t = false) ∧ (∀ t, hi ≤ t → t < n → p t = true)))
  case atStart => exact ⟨0, n, rfl, rfl, Nat.zero_le _, Nat.le_refl _, by omega, HB0, ⟨fun t ht => absurd ht (Nat.not_lt_zero _), fun t h1 h2 => by omega⟩⟩
  case round =>
    obtain ⟨lo, hi, rfl, rfl, hlh, hin, hg, HB, I⟩ := hrel
    by_cases hlt : lo < hi
    · have hc := HF.out _ ((lo + hi) / 2) HB.out (by omega)
      rw [show (((lo + hi) / 2 : Nat) : Int) = ((lo : Int) + (hi : Int)) / 2 by omega] at hc
      have hlt' : decide ((lo : Int) < (hi : Int)) = true := decide_eq_true (by omega)
      cases hp : p ((lo + hi) / 2) <;> rw [hp] at hc
      · have HP := Aside0.mk hp
        clear hp
        go_wp2_with (go_at_fn 31; refine hc.mono ?_; rintro e w' ⟨rfl, hb⟩; have HB2 := Aside0.mk (bl_next' HB.out hb); clear hb)
        go_roundg (hi - ((lo + hi) / 2 + 1))
        case measure => omega
        case rel =>
          have I2 : Aside0 ((∀ t, t < (lo + hi) / 2 + 1 → p t = false) ∧ (∀ t, hi ≤ t → t < n → p t = true)) := ⟨fun t ht => (by
            cases h : p t with
            | false => rfl
            | true => have := M.out t ((lo + hi) / 2) (by omega) (by omega) h; rw [HP.out] at this; cases this), I.out.2⟩
          exact ⟨(lo + hi) / 2 + 1, hi, by rw [show ((lo : Int) + (hi : Int)) / 2 + 1 = (((lo + hi) / 2 + 1 : Nat) : Int) by omega], rfl, by omega, hin, Nat.le_refl _, HB2, I2⟩
      · have HP := Aside0.mk hp
        clear hp
        go_wp2_with (go_at_fn 31; refine hc.mono ?_; rintro e w' ⟨rfl, hb⟩; have HB2 := Aside0.mk (bl_next' HB.out hb); clear hb)
        go_roundg ((lo + hi) / 2 - lo)
        case measure => omega
        case rel =>
          have I2 : Aside0 ((∀ t, t < lo → p t = false) ∧ (∀ t, (lo + hi) / 2 ≤ t → t < n → p t = true)) := ⟨I.out.1, fun t ht htn => M.out ((lo + hi) / 2) t ht htn HP.out⟩
          exact ⟨lo, (lo + hi) / 2, rfl, by rw [show ((lo : Int) + (hi : Int)) / 2 = (((lo + hi) / 2 : Nat) : Int) by omega], by omega, by omega, Nat.le_refl _, HB2, I2⟩
    · obtain rfl : hi = lo := by omega
      have ecnt : cnt = hi := by
        rw [← CN.out]
        exact countP_prefix p hi n hin I.out.1 I.out.2
      subst ecnt
      go_wp2
      go_ret
      exact ⟨rfl, HB.out⟩

theorem rate_anti (a : S23) (ha : actB a = true) {p q : Int} (h : p ≤ q) : rateP a q ≤ rateP a p := by
  obtain ⟨_, _, a2, _, _, _, a6, _⟩ := act_of ha
  have e1 : (a.f0 - q) / a.f2 ≤ (a.f0 - p) / a.f2 := Int.ediv_le_ediv (by omega) (by omega)
  have e2 := Int.mul_le_mul_of_nonneg_left e1 a6
  unfold rateP
  omega

set_option maxHeartbeats 4000000 in
theorem closure_any (a : S23) (r : Int) (ba bx : Nat) (W : World) (i : Nat) (hi : i < 100001) (ha : actB a = true)
    (hba : W.heap[ba]? = some (.cells #[.int .i64 a.f0, .int .i64 a.f1, .int .i64 a.f2, .int .i64 a.f3, .int .i64 a.f4, .int .i64 a.f5] 23 (0, 0)))
    (hbx : W.cell? ⟨bx, 0, none⟩ = some (.int .i64 r)) :
    Calls Try.prog 31 (#[.int .i64 i] ++ #[.pointer (some ⟨ba, 0, none⟩), .pointer (some ⟨bx, 0, none⟩)]) W fun e w' => e = .returned (.bool (decide (rateP a i < r))) ∧ Below W.heap.size W w' := by
  have HR := Aside0.mk (fun W' => rate_any a (i : Int) W' ha (by omega) (by omega))
  have s0 := cell_two hba 0 rfl
  have s1 := cell_two hba 1 rfl
  have s2 := cell_two hba 2 rfl
  have s3 := cell_two hba 3 rfl
  have s4 := cell_two hba 4 rfl
  have s5 := cell_two hba 5 rfl
  have HB0 := Aside0.mk (Below.refl W.heap.size W)
  have hX := hbx
  have BP0 := Aside0.mk hba
  clear hba ha
  generalize hq : rateP a i = q at HR ⊢
  clear hq
  go_enter Try.func31, Try.ntmps31
  go_wp2
  go_region_held3 (fun w' => w'.cell? ⟨bx, 0, none⟩ = some (.int .i64 r) ∧ w'.cell? ⟨ba, 0, none⟩ = some (.int .i64 a.f0) ∧ w'.cell? ⟨ba, 1, none⟩ = some (.int .i64 a.f1) ∧ w'.cell? ⟨ba, 2, none⟩ = some (.int .i64 a.f2) ∧ w'.cell? ⟨ba, 3, none⟩ = some (.int .i64 a.f3) ∧ w'.cell? ⟨ba, 4, none⟩ = some (.int .i64 a.f4) ∧ w'.cell? ⟨ba, 5, none⟩ = some (.int .i64 a.f5)) (go_keep) (first | (go_at_call 27; refine (HR.out _).mono ?_; rintro e W1 ⟨rfl, hb⟩; have HB1 := Aside0.mk (bl_next' (by repeat (first | exact HB0.out | apply below_alloc | apply below_drew)) hb); have hx1 : W1.cell? ⟨bx, 0, none⟩ = some (.int .i64 r) := (hb.cell (World.block_lt_of_cell? _ _ hX)).trans hX; have BP := Aside0.mk (blk_below (by repeat (first | exact BP0.out | apply blk_alloc | apply blk_drew)) hb); clear hb; clear s0 s1 s2 s3 s4 s5; have s0 : W1.cell? ⟨ba, 0, none⟩ = some (.int .i64 a.f0) := cell_two BP.out 0 rfl; have s1 : W1.cell? ⟨ba, 1, none⟩ = some (.int .i64 a.f1) := cell_two BP.out 1 rfl; have s2 : W1.cell? ⟨ba, 2, none⟩ = some (.int .i64 a.f2) := cell_two BP.out 2 rfl; have s3 : W1.cell? ⟨ba, 3, none⟩ = some (.int .i64 a.f3) := cell_two BP.out 3 rfl; have s4 : W1.cell? ⟨ba, 4, none⟩ = some (.int .i64 a.f4) := cell_two BP.out 4 rfl; have s5 : W1.cell? ⟨ba, 5, none⟩ = some (.int .i64 a.f5) := cell_two BP.out 5 rfl))
  all_goals
    go_wp2
    go_ret
    exact ⟨rfl, HB1.out⟩
end Go.Proofs.Ytnammdkpejocmaa.Print
