/- What is due in a year. -/
import Derived.Test.YtnammdkpejocmaaSF
namespace Go.Proofs.Ytnammdkpejocmaa.Print
open Go.RowKit Go.Proofs.YtnammdkpejocmaaW.PrintWords Go.Proofs.YtnammdkpejocmaaW.PrintLast Go.Proofs.YtnammdkpejocmaaW.PrintMore
set_option linter.unusedVariables false
set_option linter.unusedSimpArgs false

abbrev yearV (y : S47) : Value := .agg #[.int .i64 y.f0, .int .i64 y.f1, .int .i64 y.f2]
theorem year_of {y : S47} (h : badY y = false) : 0 ≤ y.f0 ∧ y.f0 ≤ 100000 ∧ 0 ≤ y.f1 ∧ y.f1 ≤ 1099511627776 ∧ -1099511627776 ≤ y.f2 ∧ y.f2 ≤ 1099511627776 := by
  simp only [badY, withinB, Bool.or_eq_false_iff, Bool.not_eq_false', decide_eq_true_eq] at h
  omega
theorem rate_bounds (a : S23) (p : Int) : 0 ≤ rateP a p ∧ rateP a p ≤ 10000 := by unfold rateP; omega
theorem due_bounds {a : S23} {y : S47} (h0 : 0 ≤ y.f1) (h1 : y.f1 ≤ 1099511627776) : 0 ≤ y.f1 * rateP a y.f0 ∧ y.f1 * rateP a y.f0 ≤ 1099511627776 * 10000 ∧ 0 ≤ dueP a y ∧ dueP a y ≤ 1099511627776 := by
  have hr := rate_bounds a y.f0
  have h2 : 0 ≤ y.f1 * rateP a y.f0 := Int.mul_nonneg h0 hr.1
  have h3 : y.f1 * rateP a y.f0 ≤ 1099511627776 * 10000 := Int.mul_le_mul h1 hr.2 hr.1 (by omega)
  unfold dueP
  omega
theorem comp_cells {base : Nat} {W : World} {P : Nat} {a : S23} {bal : Int} {A : Option Addr} {n c : Nat} {arr : List Int} (h : CompAt base W P a bal A n c arr) :
    W.cell? ⟨P, 0, none⟩ = some (.int .i64 a.f0) ∧ W.cell? ⟨P, 1, none⟩ = some (.int .i64 a.f1) ∧ W.cell? ⟨P, 2, none⟩ = some (.int .i64 a.f2) ∧ W.cell? ⟨P, 3, none⟩ = some (.int .i64 a.f3) ∧ W.cell? ⟨P, 4, none⟩ = some (.int .i64 a.f4) ∧ W.cell? ⟨P, 5, none⟩ = some (.int .i64 a.f5) ∧ W.cell? ⟨P, 6, none⟩ = some (.int .i64 bal) ∧ W.cell? ⟨P, 7, none⟩ = some (.slice A n c) :=
  ⟨cell_two h.blk 0 rfl, cell_two h.blk 1 rfl, cell_two h.blk 2 rfl, cell_two h.blk 3 rfl, cell_two h.blk 4 rfl, cell_two h.blk 5 rfl, cell_two h.blk 6 rfl, cell_two h.blk 7 rfl⟩
set_option maxHeartbeats 4000000 in
theorem due_any (base : Nat) (W : World) (P : Nat) (a : S23) (bal : Int) (A : Option Addr) (n c : Nat) (arr : List Int) (y : S47) (h : CompAt base W P a bal A n c arr) (ha : actB a = true) (hy : badY y = false) :
    Calls Try.prog 36 #[.pointer (some ⟨P, 0, none⟩), yearV y] W fun e w' => e = .returned (.int .i64 (dueP a y)) ∧ Below W.heap.size W w' := by
  obtain ⟨y0, y1, y2, y3, _, _⟩ := year_of hy
  obtain ⟨d0, d1, d2, d3⟩ := due_bounds (a := a) y2 y3
  have hw1 : wrap64 (y.f1 * rateP a y.f0) = y.f1 * rateP a y.f0 := by unfold wrap64; omega
  have hv1 : IntKind.i64.wrap (y.f1 * rateP a y.f0) = y.f1 * rateP a y.f0 := (i64_w _).trans hw1
  have hq : (y.f1 * rateP a y.f0).tdiv 10000 = dueP a y := Int.tdiv_eq_ediv_of_nonneg d0
  have hq2 : (y.f1 * rateP a y.f0) / 10000 = dueP a y := rfl
  have hw2 : wrap64 (dueP a y) = dueP a y := by unfold wrap64; omega
  have hv2 : IntKind.i64.wrap (dueP a y) = dueP a y := (i64_w _).trans hw2
  have H0 := Aside0.mk (h.below (below_alloc (Below.refl _ _) (.cells #[.int .i64 y.f0, .int .i64 y.f1, .int .i64 y.f2] 47)))
  have BY0 := Aside0.mk (blk_new W (.cells #[.int .i64 y.f0, .int .i64 y.f1, .int .i64 y.f2] 47))
  have HB0 := Aside0.mk (below_alloc (Below.refl W.heap.size W) (.cells #[.int .i64 y.f0, .int .i64 y.f1, .int .i64 y.f2] 47))
  obtain ⟨c0, c1, c2, c3, c4, c5, _, _⟩ := comp_cells H0.out
  have s0 : (W.alloc (.cells #[.int .i64 y.f0, .int .i64 y.f1, .int .i64 y.f2] 47)).cell? ⟨W.heap.size, 0, none⟩ = some (.int .i64 y.f0) := cell_two BY0.out 0 rfl
  have s1 : (W.alloc (.cells #[.int .i64 y.f0, .int .i64 y.f1, .int .i64 y.f2] 47)).cell? ⟨W.heap.size, 1, none⟩ = some (.int .i64 y.f1) := cell_two BY0.out 1 rfl
  clear h d0 d1
  go_enter Try.func36, Try.ntmps36
  go_wp2_with (fail)
  go_region_held3 (fun w' => w'.cell? ⟨W.heap.size, 0, none⟩ = some (.int .i64 y.f0) ∧ w'.cell? ⟨W.heap.size, 1, none⟩ = some (.int .i64 y.f1) ∧ w'.cell? ⟨P, 0, none⟩ = some (.int .i64 a.f0) ∧ w'.cell? ⟨P, 1, none⟩ = some (.int .i64 a.f1) ∧ w'.cell? ⟨P, 2, none⟩ = some (.int .i64 a.f2) ∧ w'.cell? ⟨P, 3, none⟩ = some (.int .i64 a.f3) ∧ w'.cell? ⟨P, 4, none⟩ = some (.int .i64 a.f4) ∧ w'.cell? ⟨P, 5, none⟩ = some (.int .i64 a.f5)) (go_keep)
    ((go_at_call 27; refine (rate_any a _ _ ha y0 y1).mono ?_; rintro e W1 ⟨rfl, hb⟩; have H1 := Aside0.mk (H0.out.drew.below hb); have BY1 := Aside0.mk (blk_below (blk_drew BY0.out) hb); have HB1 := Aside0.mk (bl_next' (below_drew1 HB0.out) hb); clear hb; clear c0 c1 c2 c3 c4 c5 s0 s1; obtain ⟨c0, c1, c2, c3, c4, c5, _, _⟩ := comp_cells H1.out; have s0 : W1.cell? ⟨W.heap.size, 0, none⟩ = some (.int .i64 y.f0) := cell_two BY1.out 0 rfl; have s1 : W1.cell? ⟨W.heap.size, 1, none⟩ = some (.int .i64 y.f1) := cell_two BY1.out 1 rfl))
  all_goals
    go_wp2_with (fail)
    go_ret
    exact ⟨by rfl, HB1.out⟩
end Go.Proofs.Ytnammdkpejocmaa.Print
