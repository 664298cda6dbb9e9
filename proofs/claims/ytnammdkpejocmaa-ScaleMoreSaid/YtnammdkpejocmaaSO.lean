/- Dearest: the dearest price with a rate. -/
import Derived.Test.YtnammdkpejocmaaSN
namespace Go.Proofs.Ytnammdkpejocmaa.Print
open Go.RowKit Go.Proofs.YtnammdkpejocmaaW.PrintWords Go.Proofs.YtnammdkpejocmaaW.PrintLast Go.Proofs.YtnammdkpejocmaaW.PrintMore
set_option linter.unusedVariables false
set_option linter.unusedSimpArgs false
attribute [local go_sem] Oper.semAt_some

/-- How many prices from 0 on have the rate. -/
def countN (a : S23) (r : Int) (n : Nat) : Nat := (List.range n).countP (fun i : Nat => !decide (rateP a (i : Int) < r))
def dearN (a : S23) (r : Int) : Nat := countN a r 100001
theorem search_rate (a : S23) (r : Int) (n : Nat) (hn : n ≤ 100001) (hA : actB a = true) (P X : Nat) (W : World) (hP : W.heap[P]? = some (.cells #[.int .i64 a.f0, .int .i64 a.f1, .int .i64 a.f2, .int .i64 a.f3, .int .i64 a.f4, .int .i64 a.f5] 23 (0, 0))) (hX : W.heap[X]? = some (.cells #[.int .i64 r] 3 (0, 0))) :
    Calls Try.prog 30 #[.int .i64 n, .func (.func 31) #[] #[.pointer (some ⟨P, 0, none⟩), .pointer (some ⟨X, 0, none⟩)]] W fun e w' => e = .returned (.int .i64 (countN a r n : Nat)) ∧ Below W.heap.size W w' :=
  search_any #[.pointer (some ⟨P, 0, none⟩), .pointer (some ⟨X, 0, none⟩)] n (fun i : Nat => decide (rateP a (i : Int) < r)) W (by omega)
          (fun W' i hb hi => closure_any a r _ _ W' i (by omega) hA (blk_below hP hb) (cell_two (blk_below hX hb) 0 rfl))
          (fun i j hij hj h => by have := rate_anti a hA (p := (i : Int)) (q := (j : Int)) (by omega); simp only [decide_eq_true_eq] at h ⊢; omega)
def dearestS (a : S23) (r : Int) : Int × Int := if actB a = true then (if withinB r 0 10000 = true then (if dearN a r = 0 then (0, 4) else ((dearN a r : Int) - 1, 0)) else (0, 2)) else (0, 1)
theorem countN_le (a : S23) (r : Int) (n : Nat) : countN a r n ≤ n := by
  have := List.countP_le_length (p := fun i : Nat => !decide (rateP a (i : Int) < r)) (l := List.range n)
  rwa [List.length_range] at this
theorem search_full (a : S23) (r : Int) (hA : actB a = true) (P X : Nat) (W : World) (hP : W.heap[P]? = some (.cells #[.int .i64 a.f0, .int .i64 a.f1, .int .i64 a.f2, .int .i64 a.f3, .int .i64 a.f4, .int .i64 a.f5] 23 (0, 0))) (hX : W.heap[X]? = some (.cells #[.int .i64 r] 3 (0, 0))) :
    Calls Try.prog 30 #[.int .i64 100001, .func (.func 31) #[] #[.pointer (some ⟨P, 0, none⟩), .pointer (some ⟨X, 0, none⟩)]] W fun e w' => e = .returned (.int .i64 (dearN a r : Nat)) ∧ Below W.heap.size W w' :=
  search_rate a r 100001 (Nat.le_refl _) hA P X W hP hX

set_option maxHeartbeats 4000000 in
theorem Dearest_any (a : S23) (r : Int) (w : World) :
    Calls Try.prog 12 #[actV a, .int .i64 r] w fun e w' => e = .returned (.tuple #[.int .i64 (dearestS a r).1, .int .i64 (dearestS a r).2]) ∧ Below w.heap.size w w' := by
  have HB0 := Aside0.mk (below_alloc (below_alloc (Below.refl w.heap.size w) (.cells #[.int .i64 a.f0, .int .i64 a.f1, .int .i64 a.f2, .int .i64 a.f3, .int .i64 a.f4, .int .i64 a.f5] 23)) (.cells #[.int .i64 r] 3))
  generalize hrr : dearestS a r = rr
  have HRES := Aside0.mk hrr
  clear hrr
  unfold dearestS at HRES
  have BP0 := Aside0.mk (blk_alloc (blk_new w (.cells #[.int .i64 a.f0, .int .i64 a.f1, .int .i64 a.f2, .int .i64 a.f3, .int .i64 a.f4, .int .i64 a.f5] 23)) (.cells #[.int .i64 r] 3))
  have BX0 : Aside0 (((w.alloc (.cells #[.int .i64 a.f0, .int .i64 a.f1, .int .i64 a.f2, .int .i64 a.f3, .int .i64 a.f4, .int .i64 a.f5] 23)).alloc (.cells #[.int .i64 r] 3)).heap[w.heap.size + 1]? = some (.cells #[.int .i64 r] 3 (0, 0))) := ⟨by have := blk_new (w.alloc (.cells #[.int .i64 a.f0, .int .i64 a.f1, .int .i64 a.f2, .int .i64 a.f3, .int .i64 a.f4, .int .i64 a.f5] 23)) (.cells #[.int .i64 r] 3); rwa [World.size_alloc] at this⟩
  have HWI := Aside0.mk (fun W => within_any r 0 10000 W)
  have HIA := Aside0.mk (fun W => isAct_any a W)
  generalize hA : actB a = A at HRES HIA
  generalize hWi : withinB r 0 10000 = Wi at HRES HWI
  cases A
  · go_enter Try.func12, Try.ntmps12
    go_wp2_with (first | (go_at_call 25; refine (HIA.out _).mono ?_; rintro e W1 ⟨rfl, hb⟩; have HB1 := Aside0.mk (bl_next' HB0.out hb); clear hb))
    go_ret2
    obtain rfl := HRES.out
    exact ⟨rfl, HB1.out⟩
  · cases Wi
    · go_enter Try.func12, Try.ntmps12
      go_wp2_with (first | (go_at_call 25; refine (HIA.out _).mono ?_; rintro e W1 ⟨rfl, hb⟩; have HB1 := Aside0.mk (bl_next' HB0.out hb); have BX := Aside0.mk (blk_below BX0.out hb); have s0 : W1.cell? ⟨w.heap.size + 1, 0, none⟩ = some (.int .i64 r) := cell_two BX.out 0 rfl; clear hb) | (go_at_call 26; refine (HWI.out _).mono ?_; rintro e W2 ⟨rfl, hb⟩; have HB2 := Aside0.mk (bl_next' HB1.out hb.below); clear hb))
      go_ret2
      obtain rfl := HRES.out
      exact ⟨rfl, HB2.out⟩
    · have HS := Aside0.mk (fun (W : World) (hP : W.heap[w.heap.size]? = some (.cells #[.int .i64 a.f0, .int .i64 a.f1, .int .i64 a.f2, .int .i64 a.f3, .int .i64 a.f4, .int .i64 a.f5] 23 (0, 0))) (hX : W.heap[w.heap.size + 1]? = some (.cells #[.int .i64 r] 3 (0, 0))) => search_full a r hA _ _ W hP hX)
      have hle : dearN a r ≤ 100001 := countN_le a r 100001
      generalize dearN a r = c at HRES HS hle
      cases c with
      | zero =>
        go_enter Try.func12, Try.ntmps12
        go_wp2_with (first | (go_at_call 25; refine (HIA.out _).mono ?_; rintro e W1 ⟨rfl, hb⟩; have HB1 := Aside0.mk (bl_next' HB0.out hb); have BX := Aside0.mk (blk_below BX0.out hb); have BP := Aside0.mk (blk_below BP0.out hb); have s0 : W1.cell? ⟨w.heap.size + 1, 0, none⟩ = some (.int .i64 r) := cell_two BX.out 0 rfl; clear hb) | (go_at_call 26; refine (HWI.out _).mono ?_; rintro e W2 ⟨rfl, hb⟩; have HB2 := Aside0.mk (bl_next' HB1.out hb.below); have BX2 := Aside0.mk (blk_below BX.out hb.below); have BP2 := Aside0.mk (blk_below BP.out hb.below); clear hb) | (go_at_call 30; refine (HS.out _ BP2.out BX2.out).mono ?_; rintro e W3 ⟨rfl, hb⟩; have HB3 := Aside0.mk (bl_next' HB2.out hb); clear hb))
        go_ret2
        obtain rfl := HRES.out
        exact ⟨rfl, HB3.out⟩
      | succ n =>
        have hn : (((n + 1 : Nat) : Int) == 0) = false := beq_eq_false_iff_ne.2 (by omega)
        have hw : wrap64 (((n + 1 : Nat) : Int) - 1) = ((n + 1 : Nat) : Int) - 1 := by unfold wrap64; omega
        go_enter Try.func12, Try.ntmps12
        go_wp2_with (first | (go_at_call 25; refine (HIA.out _).mono ?_; rintro e W1 ⟨rfl, hb⟩; have HB1 := Aside0.mk (bl_next' HB0.out hb); have BX := Aside0.mk (blk_below BX0.out hb); have BP := Aside0.mk (blk_below BP0.out hb); have s0 : W1.cell? ⟨w.heap.size + 1, 0, none⟩ = some (.int .i64 r) := cell_two BX.out 0 rfl; clear hb) | (go_at_call 26; refine (HWI.out _).mono ?_; rintro e W2 ⟨rfl, hb⟩; have HB2 := Aside0.mk (bl_next' HB1.out hb.below); have BX2 := Aside0.mk (blk_below BX.out hb.below); have BP2 := Aside0.mk (blk_below BP.out hb.below); clear hb) | (go_at_call 30; refine (HS.out _ BP2.out BX2.out).mono ?_; rintro e W3 ⟨rfl, hb⟩; have HB3 := Aside0.mk (bl_next' HB2.out hb); clear hb))
        go_ret2
        obtain rfl := HRES.out
        exact ⟨by simp, HB3.out⟩
end Go.Proofs.Ytnammdkpejocmaa.Print
