/- The rate of a price. -/
import Derived.Test.YtnammdkpejocmaaSA
import Derived.Deep.RegionHeld3
import Derived.Laws.EntriesVeiled
import Derived.WalkSpells
namespace Go.Proofs.Ytnammdkpejocmaa.Print
open Go.RowKit Go.Proofs.YtnammdkpejocmaaW.PrintWords Go.Proofs.YtnammdkpejocmaaW.PrintLast Go.Proofs.YtnammdkpejocmaaW.PrintMore
set_option linter.unusedVariables false
set_option linter.unusedSimpArgs false

theorem cell_two {W : World} {g : Nat} {t : TypeId} {cs : Array Value} (h : W.heap[g]? = some (.cells cs t (0, 0))) (i : Nat) {v : Value} (e : cs[i]? = some v) : W.cell? ⟨g, i, none⟩ = some v := (blk_cell h i).trans e
theorem ret_int {k : IntKind} {a b : Int} (h : a = b) : Ending.returned (.int k a) = .returned (.int k b) := by rw [h]
theorem bl_next' {w W W' : World} (h : Below w.heap.size w W) (hb : Below W.heap.size W W') : Below w.heap.size w W' := h.trans (hb.mono h.size)
theorem clamp_f (n : Int) : scale_clamp_int.f 3 n [0, 10000] = some (max 0 (min 10000 n)) := by
  unfold scale_clamp_int.f
  simp only [scale_clamp_int.l0]
  have e1 : wrap64 (0 + 1) = 1 := by unfold wrap64; omega
  have e2 : wrap64 (0 + 2) = 2 := by unfold wrap64; omega
  have e3 : wrap64 (2 + 1) = 3 := by unfold wrap64; omega
  rw [e1, e2, e3]
  simp only [List.length_cons, List.length_nil]
  rw [if_pos (by decide), if_pos (by decide), if_pos (by decide), if_pos (by decide), if_neg (by decide)]
  have r0 : rd [0, 10000] 0 = 0 := rfl
  have r1 : rd [0, 10000] 1 = 10000 := rfl
  rw [r0, r1]
  congr 1
  unfold mn mx
  omega
theorem clamp_any (n : Int) (A : Option Addr) (c : Nat) (w : World) (hr : Kd.C (Kd.int .i64) w A 2 [0, 10000]) (hc : 2 ≤ c) :
    Calls Try.prog 39 #[.int .i64 n, .slice A 2 c] w fun e w' => e = .returned (.int .i64 (max 0 (min 10000 n))) ∧ Below w.heap.size w w' :=
  scale_clamp_int.calls 3 n A c [0, 10000] _ w hr hc (clamp_f n)
theorem C_two {W : World} {g : Nat} (h : W.heap[g]? = some (.cells #[.int .i64 0, .int .i64 10000] 3 (0, 0))) : Kd.C (Kd.int .i64) W (some ⟨g, 0, none⟩) 2 [0, 10000] := by
  refine Kd.C_of_reads (d := 0) ⟨rfl, by decide, fun _ => ⟨⟨g, 0, none⟩, rfl, fun j hj => ?_⟩⟩
  have e : (⟨g, 0, none⟩ : Addr).add j = ⟨g, j, none⟩ := by unfold Addr.add; split <;> simp_all
  rw [e]
  rcases (by omega : j = 0 ∨ j = 1) with rfl | rfl
  · exact cell_two h 0 rfl
  · exact cell_two h 1 rfl
theorem slide_down (p q s : Int) (hs : 1 ≤ s) (h : ¬ q ≤ p) : -((q - p + s - 1) / s) = (p - q) / s := by
  have e1 : (p - q) / s = -((q - p + s - 1) / s) := by
    have h1 := Int.ediv_emod_unique (a := p - q) (b := s) (r := s - 1 - (q - p + s - 1) % s) (q := -((q - p + s - 1) / s)) (by omega)
    have h2 := Int.emod_add_mul_ediv (q - p + s - 1) s
    have h3 := Int.emod_nonneg (q - p + s - 1) (show s ≠ 0 by omega)
    have h4 := Int.emod_lt_of_pos (q - p + s - 1) (show 0 < s by omega)
    exact (h1.2 ⟨by rw [Int.mul_neg]; omega, by omega, by omega⟩).1
  omega

set_option maxHeartbeats 4000000 in
theorem rate_le (a : S23) (price : Int) (w : World) (ha : actB a = true) (h : price ≤ a.f0) (h0 : 0 ≤ price) :
    Calls Try.prog 27 #[actV a, .int .i64 price] w fun e w' => e = .returned (.int .i64 (rateP a price)) ∧ Below w.heap.size w w' := by
  obtain ⟨a0, a1, a2, a3, a4, a5, a6, a7, _, _, _, _⟩ := act_of ha
  have HR : Aside0 (max 0 (min 10000 (a.f1 + a.f3 * ((a.f0 - price) / a.f2))) = rateP a price) := ⟨rfl⟩
  have q0 : 0 ≤ (a.f0 - price) / a.f2 := Int.ediv_nonneg (by omega) (by omega)
  have q1 : (a.f0 - price) / a.f2 ≤ a.f0 - price := Int.ediv_le_self _ (by omega)
  have q2 : 0 ≤ a.f3 * ((a.f0 - price) / a.f2) := Int.mul_nonneg a6 q0
  have q3 : a.f3 * ((a.f0 - price) / a.f2) ≤ 10000 * 100000 := Int.mul_le_mul a7 (by omega) q0 (by omega)
  have hw1 : wrap64 (a.f3 * ((a.f0 - price) / a.f2)) = a.f3 * ((a.f0 - price) / a.f2) := by unfold wrap64; omega
  have hw2 : wrap64 (a.f1 + a.f3 * ((a.f0 - price) / a.f2)) = a.f1 + a.f3 * ((a.f0 - price) / a.f2) := by unfold wrap64; omega
  have hv1 : IntKind.i64.wrap (a.f3 * ((a.f0 - price) / a.f2)) = a.f3 * ((a.f0 - price) / a.f2) := (i64_w _).trans hw1
  have hv2 : IntKind.i64.wrap (a.f1 + a.f3 * ((a.f0 - price) / a.f2)) = a.f1 + a.f3 * ((a.f0 - price) / a.f2) := (i64_w _).trans hw2
  have HS : 0 ≤ a.f0 - price ∧ a.f0 - price ≤ 100000 := by omega
  have H1 : 1 ≤ a.f2 ∧ a.f2 ≤ 100000 := ⟨a2, a3⟩
  have hm : ∀ (v : Int) (w : World), (method 207 88 (.int .i64 v) "gasworks/scale.steps").run Try.prog w = .ok (63, .int .i64 v) w := fun _ _ => by kernel_rfl
  have HB0 := Aside0.mk (below_alloc (Below.refl w.heap.size w) (.cells #[.int .i64 a.f0, .int .i64 a.f1, .int .i64 a.f2, .int .i64 a.f3, .int .i64 a.f4, .int .i64 a.f5] 23))
  have BP0 := Aside0.mk (blk_new w (.cells #[.int .i64 a.f0, .int .i64 a.f1, .int .i64 a.f2, .int .i64 a.f3, .int .i64 a.f4, .int .i64 a.f5] 23))
  have s0 := cell_two BP0.out 0 rfl
  have s1 := cell_two BP0.out 1 rfl
  have s2 := cell_two BP0.out 2 rfl
  have s3 := cell_two BP0.out 3 rfl
  have s4 := cell_two BP0.out 4 rfl
  have s5 := cell_two BP0.out 5 rfl
  go_enter Try.func27, Try.ntmps27
  go_wp2_with (fail)
  go_region_held3 (fun w' => w'.cell? ⟨w.heap.size, 0, none⟩ = some (.int .i64 a.f0) ∧ w'.cell? ⟨w.heap.size, 1, none⟩ = some (.int .i64 a.f1) ∧ w'.cell? ⟨w.heap.size, 2, none⟩ = some (.int .i64 a.f2) ∧ w'.cell? ⟨w.heap.size, 3, none⟩ = some (.int .i64 a.f3) ∧ w'.cell? ⟨w.heap.size, 4, none⟩ = some (.int .i64 a.f4) ∧ w'.cell? ⟨w.heap.size, 5, none⟩ = some (.int .i64 a.f5)) (go_keep) (first | (go_at_call 40; refine (slide_le a price _ h h0 a1).mono ?_; rintro e W1 ⟨rfl, hb⟩; have BP := Aside0.mk (blk_below (by repeat (first | exact BP0.out | apply blk_alloc | apply blk_drew)) hb); have HB := Aside0.mk (bl_next' (by repeat (first | exact HB0.out | apply below_alloc | apply below_drew)) hb); (try (have BL := Aside0.mk (blk_below (blk_drew (blk_new _ (.cells #[.int .i64 0, .int .i64 10000] 3))) hb))); clear hb; clear s0 s1 s2 s3 s4 s5; have s0 : W1.cell? ⟨w.heap.size, 0, none⟩ = some (.int .i64 a.f0) := cell_two BP.out 0 rfl; have s1 : W1.cell? ⟨w.heap.size, 1, none⟩ = some (.int .i64 a.f1) := cell_two BP.out 1 rfl; have s2 : W1.cell? ⟨w.heap.size, 2, none⟩ = some (.int .i64 a.f2) := cell_two BP.out 2 rfl; have s3 : W1.cell? ⟨w.heap.size, 3, none⟩ = some (.int .i64 a.f3) := cell_two BP.out 3 rfl; have s4 : W1.cell? ⟨w.heap.size, 4, none⟩ = some (.int .i64 a.f4) := cell_two BP.out 4 rfl; have s5 : W1.cell? ⟨w.heap.size, 5, none⟩ = some (.int .i64 a.f5) := cell_two BP.out 5 rfl) | (go_at_call 39; refine (clamp_any _ _ _ _ (C_two (by first | exact BL.out | (simpa using BL.out) | exact blk_new _ _ | (simpa using blk_new _ (.cells #[.int .i64 0, .int .i64 10000] 3)))) (Nat.le_refl _)).mono ?_; rintro e W2 ⟨rfl, hb⟩; have BP2 := Aside0.mk (blk_below (by repeat (first | exact BP.out | apply blk_alloc | apply blk_drew)) hb); have HB2 := Aside0.mk (bl_next' (by repeat (first | exact HB.out | apply below_alloc | apply below_drew)) hb); clear hb; clear s0 s1 s2 s3 s4 s5; have s0 : W2.cell? ⟨w.heap.size, 0, none⟩ = some (.int .i64 a.f0) := cell_two BP2.out 0 rfl; have s1 : W2.cell? ⟨w.heap.size, 1, none⟩ = some (.int .i64 a.f1) := cell_two BP2.out 1 rfl; have s2 : W2.cell? ⟨w.heap.size, 2, none⟩ = some (.int .i64 a.f2) := cell_two BP2.out 2 rfl; have s3 : W2.cell? ⟨w.heap.size, 3, none⟩ = some (.int .i64 a.f3) := cell_two BP2.out 3 rfl; have s4 : W2.cell? ⟨w.heap.size, 4, none⟩ = some (.int .i64 a.f4) := cell_two BP2.out 4 rfl; have s5 : W2.cell? ⟨w.heap.size, 5, none⟩ = some (.int .i64 a.f5) := cell_two BP2.out 5 rfl) | (go_at_call 63; refine (cheaper_any _ _ _ HS H1).mono ?_; rintro e W5 ⟨rfl, rfl⟩))
  all_goals
    go_wp2_with (fail)
    go_ret
    exact ⟨by first | rfl | exact ret_int HR.out, HB2.out⟩

set_option maxHeartbeats 4000000 in
theorem rate_gt (a : S23) (price : Int) (w : World) (ha : actB a = true) (h : ¬ price ≤ a.f0) (h0 : price ≤ 100000) :
    Calls Try.prog 27 #[actV a, .int .i64 price] w fun e w' => e = .returned (.int .i64 (rateP a price)) ∧ Below w.heap.size w w' := by
  obtain ⟨a0, a1, a2, a3, a4, a5, a6, a7, _, _, _, _⟩ := act_of ha
  have e0 := slide_down a.f0 price a.f2 a2 h
  have HR : Aside0 (max 0 (min 10000 (a.f1 + a.f3 * -((price - a.f0 + a.f2 - 1) / a.f2))) = rateP a price) := ⟨by rw [e0]; rfl⟩
  clear e0
  obtain ⟨q, hq⟩ : ∃ q, q = (price - a.f0 + a.f2 - 1) / a.f2 := ⟨_, rfl⟩
  have q0 : 0 ≤ q := by rw [hq]; exact Int.ediv_nonneg (by omega) (by omega)
  have q1 : q ≤ price - a.f0 + a.f2 - 1 := by rw [hq]; exact Int.ediv_le_self _ (by omega)
  have q2 : 0 ≤ a.f3 * q := Int.mul_nonneg a6 q0
  have q3 : a.f3 * q ≤ 10000 * 200000 := Int.mul_le_mul a7 (by omega) q0 (by omega)
  have q4 : a.f3 * -q = -(a.f3 * q) := Int.mul_neg _ _
  have hw1 : wrap64 (a.f3 * -q) = a.f3 * -q := by rw [q4]; unfold wrap64; omega
  have hw2 : wrap64 (a.f1 + a.f3 * -q) = a.f1 + a.f3 * -q := by rw [q4]; unfold wrap64; omega
  have hv1 : IntKind.i64.wrap (a.f3 * -q) = a.f3 * -q := (i64_w _).trans hw1
  have hv2 : IntKind.i64.wrap (a.f1 + a.f3 * -q) = a.f1 + a.f3 * -q := (i64_w _).trans hw2
  have HDE : ∀ W : World, Calls Try.prog 64 #[.int .i64 (price - a.f0), .int .i64 a.f2] W fun e w' => e = .returned (.int .i64 (-q)) ∧ W = w' := fun W => by rw [hq]; exact dearer_any _ _ _ (by omega) ⟨a2, a3⟩
  rw [← hq] at HR
  clear q4 hq q2 q3
  have HD := Aside0.mk HDE
  clear HDE
  have hm : ∀ (v : Int) (w : World), (method 207 89 (.int .i64 v) "gasworks/scale.steps").run Try.prog w = .ok (64, .int .i64 v) w := fun _ _ => by kernel_rfl
  have HB0 := Aside0.mk (below_alloc (Below.refl w.heap.size w) (.cells #[.int .i64 a.f0, .int .i64 a.f1, .int .i64 a.f2, .int .i64 a.f3, .int .i64 a.f4, .int .i64 a.f5] 23))
  have BP0 := Aside0.mk (blk_new w (.cells #[.int .i64 a.f0, .int .i64 a.f1, .int .i64 a.f2, .int .i64 a.f3, .int .i64 a.f4, .int .i64 a.f5] 23))
  have s0 := cell_two BP0.out 0 rfl
  have s1 := cell_two BP0.out 1 rfl
  have s2 := cell_two BP0.out 2 rfl
  have s3 := cell_two BP0.out 3 rfl
  have s4 := cell_two BP0.out 4 rfl
  have s5 := cell_two BP0.out 5 rfl
  go_enter Try.func27, Try.ntmps27
  go_wp2_with (fail)
  go_region_held3 (fun w' => w'.cell? ⟨w.heap.size, 0, none⟩ = some (.int .i64 a.f0) ∧ w'.cell? ⟨w.heap.size, 1, none⟩ = some (.int .i64 a.f1) ∧ w'.cell? ⟨w.heap.size, 2, none⟩ = some (.int .i64 a.f2) ∧ w'.cell? ⟨w.heap.size, 3, none⟩ = some (.int .i64 a.f3) ∧ w'.cell? ⟨w.heap.size, 4, none⟩ = some (.int .i64 a.f4) ∧ w'.cell? ⟨w.heap.size, 5, none⟩ = some (.int .i64 a.f5)) (go_keep) (first | (go_at_call 40; refine (slide_gt a price _ (by omega) a0 h0).mono ?_; rintro e W1 ⟨rfl, hb⟩; have BP := Aside0.mk (blk_below (by repeat (first | exact BP0.out | apply blk_alloc | apply blk_drew)) hb); have HB := Aside0.mk (bl_next' (by repeat (first | exact HB0.out | apply below_alloc | apply below_drew)) hb); (try (have BL := Aside0.mk (blk_below (blk_drew (blk_new _ (.cells #[.int .i64 0, .int .i64 10000] 3))) hb))); clear hb; clear s0 s1 s2 s3 s4 s5; have s0 : W1.cell? ⟨w.heap.size, 0, none⟩ = some (.int .i64 a.f0) := cell_two BP.out 0 rfl; have s1 : W1.cell? ⟨w.heap.size, 1, none⟩ = some (.int .i64 a.f1) := cell_two BP.out 1 rfl; have s2 : W1.cell? ⟨w.heap.size, 2, none⟩ = some (.int .i64 a.f2) := cell_two BP.out 2 rfl; have s3 : W1.cell? ⟨w.heap.size, 3, none⟩ = some (.int .i64 a.f3) := cell_two BP.out 3 rfl; have s4 : W1.cell? ⟨w.heap.size, 4, none⟩ = some (.int .i64 a.f4) := cell_two BP.out 4 rfl; have s5 : W1.cell? ⟨w.heap.size, 5, none⟩ = some (.int .i64 a.f5) := cell_two BP.out 5 rfl) | (go_at_call 39; refine (clamp_any _ _ _ _ (C_two (by first | exact BL.out | (simpa using BL.out) | exact blk_new _ _ | (simpa using blk_new _ (.cells #[.int .i64 0, .int .i64 10000] 3)))) (Nat.le_refl _)).mono ?_; rintro e W2 ⟨rfl, hb⟩; have BP2 := Aside0.mk (blk_below (by repeat (first | exact BP.out | apply blk_alloc | apply blk_drew)) hb); have HB2 := Aside0.mk (bl_next' (by repeat (first | exact HB.out | apply below_alloc | apply below_drew)) hb); clear hb; clear s0 s1 s2 s3 s4 s5; have s0 : W2.cell? ⟨w.heap.size, 0, none⟩ = some (.int .i64 a.f0) := cell_two BP2.out 0 rfl; have s1 : W2.cell? ⟨w.heap.size, 1, none⟩ = some (.int .i64 a.f1) := cell_two BP2.out 1 rfl; have s2 : W2.cell? ⟨w.heap.size, 2, none⟩ = some (.int .i64 a.f2) := cell_two BP2.out 2 rfl; have s3 : W2.cell? ⟨w.heap.size, 3, none⟩ = some (.int .i64 a.f3) := cell_two BP2.out 3 rfl; have s4 : W2.cell? ⟨w.heap.size, 4, none⟩ = some (.int .i64 a.f4) := cell_two BP2.out 4 rfl; have s5 : W2.cell? ⟨w.heap.size, 5, none⟩ = some (.int .i64 a.f5) := cell_two BP2.out 5 rfl) | (go_at_call 64; refine (HD.out _).mono ?_; rintro e W5 ⟨rfl, rfl⟩))
  all_goals
    go_wp2_with (fail)
    go_ret
    exact ⟨by first | rfl | exact ret_int HR.out, HB2.out⟩
theorem rate_any (a : S23) (price : Int) (w : World) (ha : actB a = true) (h0 : 0 ≤ price) (h1 : price ≤ 100000) :
    Calls Try.prog 27 #[actV a, .int .i64 price] w fun e w' => e = .returned (.int .i64 (rateP a price)) ∧ Below w.heap.size w w' := by
  by_cases h : price ≤ a.f0
  · exact rate_le a price w ha h h0
  · exact rate_gt a price w ha h h1
end Go.Proofs.Ytnammdkpejocmaa.Print
