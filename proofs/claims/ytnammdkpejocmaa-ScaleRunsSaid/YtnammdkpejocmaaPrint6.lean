/- Lean functions and contracts of Go functions of this claim, printed by a program of this session out of the translation. -/
import Derived.Test.YtnammdkpejocmaaPrint0
import Derived.Test.YtnammdkpejocmaaPrint4
import Derived.Test.YtnammdkpejocmaaPrint5
namespace Go.Proofs.Ytnammdkpejocmaa.Print
open Go.RowKit Go.Proofs.YtnammdkpejocmaaW.PrintWords Go.Proofs.YtnammdkpejocmaaW.PrintLast Go.Proofs.YtnammdkpejocmaaW.PrintMore
attribute [local go_sem] max2_int min2_int max_two min_two max_three min_three max_four min_four   -- for this text's walks alone
set_option linter.unusedVariables false
set_option linter.unusedSimpArgs false

/-! ### gasworksref13_year: function 35 -/
mutual
def gasworksref13_year.l0 : Nat → Int → Int → Int → List Int → Int → Int → Int → Int → Int → Int → Int → Int → List Int → Int → Int → Int → Int → Int → Int → Option (Int × Int × Int × Int × Int × Int × Int × List Int)
  | 0, _, _, _, _, _, _, _, _, _, _, _, _, _, _, _, _, _, _, _ => none
  | k + 1, x9, x10, x11, x12, x13, x190000, x190001, x190002, x190003, x190004, x190005, x191000, x191001, x195000, x195001, x195002, x195003, x195004, x195005 => if x13 < (x191001.length : Int) then (if 0 ≤ x13 then (if x12.length < 17592186044416 then (gasworksref13_year.l0 k x9 (wrap64 (x10 - (mn x10 (rd x191001 x13)))) x11 (x12 ++ [wrap64 ((rd x191001 x13) - (mn x10 (rd x191001 x13)))]) (wrap64 (x13 + 1)) x190000 x190001 x190002 x190003 x190004 x190005 x191000 x191001 x195000 x195001 x195002 x195003 x195004 x195005) else (none)) else (none)) else (if x12.length < 17592186044416 then (gasworksref13_year.l1 k x9 (x12 ++ [x11]) x190000 x190001 x190002 x190003 x190004 x190005 x195000 x195001 x195002 x195003 x195004 x195005) else (none))
def gasworksref13_year.l1 : Nat → Int → List Int → Int → Int → Int → Int → Int → Int → Int → Int → Int → Int → Int → Int → Option (Int × Int × Int × Int × Int × Int × Int × List Int)
  | 0, _, _, _, _, _, _, _, _, _, _, _, _, _, _ => none
  | k + 1, x9, x12, x190000, x190001, x190002, x190003, x190004, x190005, x195000, x195001, x195002, x195003, x195004, x195005 => if (x12.length : Int) > x190005 then (if 1 ≤ (x12.length : Int) then (gasworksref13_year.l1 k x9 (x12.drop (1 : Int).toNat) x190000 x190001 x190002 x190003 x190004 x190005 x195000 x195001 x195002 x195003 x195004 x195005) else (none)) else ((gasworksref13_sum.f k x12).bind fun t208 => (some (x195000, x195001, x195002, t208, wrap64 (x9 - (mx 0 (wrap64 (x9 - x190004)))), mx 0 (wrap64 (x9 - x190004)), wrap64 (x9 - (mx 0 (wrap64 (x9 - x190004)))), x12)))
end
def gasworksref13_year.f (k : Nat) (a0_0 : Int) (a0_1 : Int) (a0_2 : Int) (a0_3 : Int) (a0_4 : Int) (a0_5 : Int) (a1_0 : Int) (l1_1 : List Int) (a2_0 : Int) (a2_1 : Int) (a2_2 : Int) : Option (Int × Int × Int × Int × Int × Int × Int × List Int) := (gasworksref13_rate.f a0_0 a0_1 a0_2 a0_3 a0_4 a0_5 a2_0).bind fun t195 => ((gasworksref13_sum.f k l1_1).bind fun t196 => (gasworksref13_year.l0 k (wrap64 ((wrap64 (a1_0 + a2_2)) - (mx 0 (mn (wrap64 ((wrap64 (Int.tdiv (wrap64 (a2_1 * t195)) 10000)) + t196)) (wrap64 (a1_0 + a2_2)))))) (wrap64 ((mx 0 (mn (wrap64 ((wrap64 (Int.tdiv (wrap64 (a2_1 * t195)) 10000)) + t196)) (wrap64 (a1_0 + a2_2)))) - (mn (mx 0 (mn (wrap64 ((wrap64 (Int.tdiv (wrap64 (a2_1 * t195)) 10000)) + t196)) (wrap64 (a1_0 + a2_2)))) (wrap64 (Int.tdiv (wrap64 (a2_1 * t195)) 10000))))) (wrap64 ((wrap64 (Int.tdiv (wrap64 (a2_1 * t195)) 10000)) - (mn (mx 0 (mn (wrap64 ((wrap64 (Int.tdiv (wrap64 (a2_1 * t195)) 10000)) + t196)) (wrap64 (a1_0 + a2_2)))) (wrap64 (Int.tdiv (wrap64 (a2_1 * t195)) 10000))))) ([] : List Int) 0 a0_0 a0_1 a0_2 a0_3 a0_4 a0_5 a1_0 l1_1 t195 (wrap64 (Int.tdiv (wrap64 (a2_1 * t195)) 10000)) (mx 0 (mn (wrap64 ((wrap64 (Int.tdiv (wrap64 (a2_1 * t195)) 10000)) + t196)) (wrap64 (a1_0 + a2_2)))) 0 0 0))
theorem gasworksref13_year.mono_l : ∀ k, (∀ y0 y1 y2 y3 y4 y5 y6 y7 y8 y9 y10 y11 y12 y13 y14 y15 y16 y17 y18, LeO (gasworksref13_year.l0 k y0 y1 y2 y3 y4 y5 y6 y7 y8 y9 y10 y11 y12 y13 y14 y15 y16 y17 y18) (gasworksref13_year.l0 (k + 1) y0 y1 y2 y3 y4 y5 y6 y7 y8 y9 y10 y11 y12 y13 y14 y15 y16 y17 y18)) ∧ (∀ y0 y1 y2 y3 y4 y5 y6 y7 y8 y9 y10 y11 y12 y13, LeO (gasworksref13_year.l1 k y0 y1 y2 y3 y4 y5 y6 y7 y8 y9 y10 y11 y12 y13) (gasworksref13_year.l1 (k + 1) y0 y1 y2 y3 y4 y5 y6 y7 y8 y9 y10 y11 y12 y13))
  | 0 => ⟨fun _ _ _ _ _ _ _ _ _ _ _ _ _ _ _ _ _ _ _ r h => by simp [gasworksref13_year.l0] at h, fun _ _ _ _ _ _ _ _ _ _ _ _ _ _ r h => by simp [gasworksref13_year.l1] at h⟩
  | k + 1 => by
    obtain ⟨ih0, ih1⟩ := gasworksref13_year.mono_l k
    refine ⟨?_, ?_⟩
    · intro y0 y1 y2 y3 y4 y5 y6 y7 y8 y9 y10 y11 y12 y13 y14 y15 y16 y17 y18
      unfold gasworksref13_year.l0
      repeat' first
      | (with_reducible exact ih0 _ _ _ _ _ _ _ _ _ _ _ _ _ _ _ _ _ _ _)
      | (with_reducible exact ih1 _ _ _ _ _ _ _ _ _ _ _ _ _ _)
      | (with_reducible exact gasworksref13_sum.mono _ _)
      | (with_reducible exact LeO.refl _)
      | (with_reducible exact LeO.none _)
      | (with_reducible refine LeO.ite ?_ ?_)
      | (with_reducible refine LeO.bind ?_ (fun _ => ?_))
      | exact ih0 _ _ _ _ _ _ _ _ _ _ _ _ _ _ _ _ _ _ _
      | exact ih1 _ _ _ _ _ _ _ _ _ _ _ _ _ _
      | exact gasworksref13_sum.mono _ _
      | exact LeO.none _
      | refine LeO.ite ?_ ?_
      | refine LeO.bind ?_ (fun _ => ?_)
    · intro y0 y1 y2 y3 y4 y5 y6 y7 y8 y9 y10 y11 y12 y13
      unfold gasworksref13_year.l1
      repeat' first
      | (with_reducible exact ih0 _ _ _ _ _ _ _ _ _ _ _ _ _ _ _ _ _ _ _)
      | (with_reducible exact ih1 _ _ _ _ _ _ _ _ _ _ _ _ _ _)
      | (with_reducible exact gasworksref13_sum.mono _ _)
      | (with_reducible exact LeO.refl _)
      | (with_reducible exact LeO.none _)
      | (with_reducible refine LeO.ite ?_ ?_)
      | (with_reducible refine LeO.bind ?_ (fun _ => ?_))
      | exact ih0 _ _ _ _ _ _ _ _ _ _ _ _ _ _ _ _ _ _ _
      | exact ih1 _ _ _ _ _ _ _ _ _ _ _ _ _ _
      | exact gasworksref13_sum.mono _ _
      | exact LeO.none _
      | refine LeO.ite ?_ ?_
      | refine LeO.bind ?_ (fun _ => ?_)
theorem gasworksref13_year.mono : ∀ a0 a1 a2 a3 a4 a5 a6 a7 a8 a9 a10 k, LeO (gasworksref13_year.f k a0 a1 a2 a3 a4 a5 a6 a7 a8 a9 a10) (gasworksref13_year.f (k + 1) a0 a1 a2 a3 a4 a5 a6 a7 a8 a9 a10) := by
  intro a0 a1 a2 a3 a4 a5 a6 a7 a8 a9 a10 k
  obtain ⟨ih0, ih1⟩ := gasworksref13_year.mono_l k
  unfold gasworksref13_year.f
  repeat' first
      | (with_reducible exact ih0 _ _ _ _ _ _ _ _ _ _ _ _ _ _ _ _ _ _ _)
      | (with_reducible exact ih1 _ _ _ _ _ _ _ _ _ _ _ _ _ _)
      | (with_reducible exact gasworksref13_sum.mono _ _)
      | (with_reducible exact LeO.refl _)
      | (with_reducible exact LeO.none _)
      | (with_reducible refine LeO.ite ?_ ?_)
      | (with_reducible refine LeO.bind ?_ (fun _ => ?_))
      | exact ih0 _ _ _ _ _ _ _ _ _ _ _ _ _ _ _ _ _ _ _
      | exact ih1 _ _ _ _ _ _ _ _ _ _ _ _ _ _
      | exact gasworksref13_sum.mono _ _
      | exact LeO.none _
      | refine LeO.ite ?_ ?_
      | refine LeO.bind ?_ (fun _ => ?_)
def gasworksref13_year.T5 : Bool × List (List Nat × List Nat) := (true, [([], []), ([0], [0]), ([], []), ([2], [2]), ([3], [3]), ([1, 4], [1, 4]), ([], []), ([5, 6], [5, 6]), ([7], [7]), ([0, 1, 2, 3, 4, 5, 6, 7, 8], []), ([9, 8, 4, 0, 1, 2, 3, 4, 5, 6, 7, 8], [8, 9])])
def gasworksref13_year.B5 : List Nat := [0, 1, 0, 4, 12, 31, 0, 127, 255, 511, 1023]
theorem gasworksref13_year.tab5 : rtab .any (opsOf Try.f35 5) = gasworksref13_year.T5 := by kernel_rfl
theorem gasworksref13_year.bits5 : waitsOk gasworksref13_year.T5.2 gasworksref13_year.B5 = true := by kernel_rfl
set_option maxHeartbeats 8000000 in
set_option maxRecDepth 100000 in
theorem gasworksref13_year.calls (k : Nat) (a0_0 : Int) (a0_1 : Int) (a0_2 : Int) (a0_3 : Int) (a0_4 : Int) (a0_5 : Int) (a1_0 : Int) (A1_1 : Option Addr) (c1_1 : Nat) (l1_1 : List Int) (a2_0 : Int) (a2_1 : Int) (a2_2 : Int) (r1 : Int) (r2 : Int) (r3 : Int) (r4 : Int) (r5 : Int) (r6 : Int) (r7 : Int) (r8 : List Int) (w : World) (hr1_1 : Kd.C (Kd.int .i64) w A1_1 l1_1.length l1_1) (hc1_1 : l1_1.length ≤ c1_1) (h : gasworksref13_year.f k a0_0 a0_1 a0_2 a0_3 a0_4 a0_5 a1_0 l1_1 a2_0 a2_1 a2_2 = some (r1, r2, r3, r4, r5, r6, r7, r8)) :
    Calls Try.prog 35 #[.agg #[.int .i64 a0_0, .int .i64 a0_1, .int .i64 a0_2, .int .i64 a0_3, .int .i64 a0_4, .int .i64 a0_5], .agg #[.int .i64 a1_0, .slice A1_1 l1_1.length c1_1], .agg #[.int .i64 a2_0, .int .i64 a2_1, .int .i64 a2_2]] w fun e w' => ∃ v7_ : Value, e = .returned (.tuple #[.agg #[.int .i64 r1, .int .i64 r2, .int .i64 r3, .int .i64 r4, .int .i64 r5, .int .i64 r6], .agg #[.int .i64 r7, v7_]]) ∧ Kd.Q (Kd.int .i64) 3 w' w.heap.size (fun _ => True) v7_ r8 ∧ Below w.heap.size w w' := by
  have hu23 := Try.underlying23
  have hu72 := Try.underlying72
  have hu47 := Try.underlying47
  have hu45 := Try.underlying45
  have HR1_1 := Aside0.mk hr1_1
  have HC1_1 := Aside0.mk hc1_1
  clear hr1_1 hc1_1
  have HB := Aside0.mk (Below.refl w.heap.size w)
  have H : ((gasworksref13_rate.f a0_0 a0_1 a0_2 a0_3 a0_4 a0_5 a2_0).bind fun t195 => ((gasworksref13_sum.f k l1_1).bind fun t196 => (gasworksref13_year.l0 k (wrap64 ((wrap64 (a1_0 + a2_2)) - (mx 0 (mn (wrap64 ((wrap64 (Int.tdiv (wrap64 (a2_1 * t195)) 10000)) + t196)) (wrap64 (a1_0 + a2_2)))))) (wrap64 ((mx 0 (mn (wrap64 ((wrap64 (Int.tdiv (wrap64 (a2_1 * t195)) 10000)) + t196)) (wrap64 (a1_0 + a2_2)))) - (mn (mx 0 (mn (wrap64 ((wrap64 (Int.tdiv (wrap64 (a2_1 * t195)) 10000)) + t196)) (wrap64 (a1_0 + a2_2)))) (wrap64 (Int.tdiv (wrap64 (a2_1 * t195)) 10000))))) (wrap64 ((wrap64 (Int.tdiv (wrap64 (a2_1 * t195)) 10000)) - (mn (mx 0 (mn (wrap64 ((wrap64 (Int.tdiv (wrap64 (a2_1 * t195)) 10000)) + t196)) (wrap64 (a1_0 + a2_2)))) (wrap64 (Int.tdiv (wrap64 (a2_1 * t195)) 10000))))) ([] : List Int) 0 a0_0 a0_1 a0_2 a0_3 a0_4 a0_5 a1_0 l1_1 t195 (wrap64 (Int.tdiv (wrap64 (a2_1 * t195)) 10000)) (mx 0 (mn (wrap64 ((wrap64 (Int.tdiv (wrap64 (a2_1 * t195)) 10000)) + t196)) (wrap64 (a1_0 + a2_2)))) 0 0 0))) = some (r1, r2, r3, r4, r5, r6, r7, r8) := h
  clear h
  replace H := Option.bind_eq_some_iff.mp H
  obtain ⟨t195, A40, H⟩ := H
  replace H : ((gasworksref13_sum.f k l1_1).bind fun t196 => (gasworksref13_year.l0 k (wrap64 ((wrap64 (a1_0 + a2_2)) - (mx 0 (mn (wrap64 ((wrap64 (Int.tdiv (wrap64 (a2_1 * t195)) 10000)) + t196)) (wrap64 (a1_0 + a2_2)))))) (wrap64 ((mx 0 (mn (wrap64 ((wrap64 (Int.tdiv (wrap64 (a2_1 * t195)) 10000)) + t196)) (wrap64 (a1_0 + a2_2)))) - (mn (mx 0 (mn (wrap64 ((wrap64 (Int.tdiv (wrap64 (a2_1 * t195)) 10000)) + t196)) (wrap64 (a1_0 + a2_2)))) (wrap64 (Int.tdiv (wrap64 (a2_1 * t195)) 10000))))) (wrap64 ((wrap64 (Int.tdiv (wrap64 (a2_1 * t195)) 10000)) - (mn (mx 0 (mn (wrap64 ((wrap64 (Int.tdiv (wrap64 (a2_1 * t195)) 10000)) + t196)) (wrap64 (a1_0 + a2_2)))) (wrap64 (Int.tdiv (wrap64 (a2_1 * t195)) 10000))))) ([] : List Int) 0 a0_0 a0_1 a0_2 a0_3 a0_4 a0_5 a1_0 l1_1 t195 (wrap64 (Int.tdiv (wrap64 (a2_1 * t195)) 10000)) (mx 0 (mn (wrap64 ((wrap64 (Int.tdiv (wrap64 (a2_1 * t195)) 10000)) + t196)) (wrap64 (a1_0 + a2_2)))) 0 0 0)) = some (r1, r2, r3, r4, r5, r6, r7, r8) := H
  have A4 := Aside0.mk A40
  clear A40
  replace H := Option.bind_eq_some_iff.mp H
  obtain ⟨t196, A50, H⟩ := H
  replace H : (gasworksref13_year.l0 k (wrap64 ((wrap64 (a1_0 + a2_2)) - (mx 0 (mn (wrap64 ((wrap64 (Int.tdiv (wrap64 (a2_1 * t195)) 10000)) + t196)) (wrap64 (a1_0 + a2_2)))))) (wrap64 ((mx 0 (mn (wrap64 ((wrap64 (Int.tdiv (wrap64 (a2_1 * t195)) 10000)) + t196)) (wrap64 (a1_0 + a2_2)))) - (mn (mx 0 (mn (wrap64 ((wrap64 (Int.tdiv (wrap64 (a2_1 * t195)) 10000)) + t196)) (wrap64 (a1_0 + a2_2)))) (wrap64 (Int.tdiv (wrap64 (a2_1 * t195)) 10000))))) (wrap64 ((wrap64 (Int.tdiv (wrap64 (a2_1 * t195)) 10000)) - (mn (mx 0 (mn (wrap64 ((wrap64 (Int.tdiv (wrap64 (a2_1 * t195)) 10000)) + t196)) (wrap64 (a1_0 + a2_2)))) (wrap64 (Int.tdiv (wrap64 (a2_1 * t195)) 10000))))) ([] : List Int) 0 a0_0 a0_1 a0_2 a0_3 a0_4 a0_5 a1_0 l1_1 t195 (wrap64 (Int.tdiv (wrap64 (a2_1 * t195)) 10000)) (mx 0 (mn (wrap64 ((wrap64 (Int.tdiv (wrap64 (a2_1 * t195)) 10000)) + t196)) (wrap64 (a1_0 + a2_2)))) 0 0 0) = some (r1, r2, r3, r4, r5, r6, r7, r8) := H
  have A5 := Aside0.mk A50
  clear A50
  obtain ⟨ji6, hji6⟩ : ∃ j_ : Int, (mn (wrap64 ((wrap64 (Int.tdiv (wrap64 (a2_1 * t195)) 10000)) + t196)) (wrap64 (a1_0 + a2_2))) = j_ := ⟨_, rfl⟩
  replace H : (gasworksref13_year.l0 k (wrap64 ((wrap64 (a1_0 + a2_2)) - (mx 0 (ji6)))) (wrap64 ((mx 0 (ji6)) - (mn (mx 0 (ji6)) (wrap64 (Int.tdiv (wrap64 (a2_1 * t195)) 10000))))) (wrap64 ((wrap64 (Int.tdiv (wrap64 (a2_1 * t195)) 10000)) - (mn (mx 0 (ji6)) (wrap64 (Int.tdiv (wrap64 (a2_1 * t195)) 10000))))) ([] : List Int) 0 a0_0 a0_1 a0_2 a0_3 a0_4 a0_5 a1_0 l1_1 t195 (wrap64 (Int.tdiv (wrap64 (a2_1 * t195)) 10000)) (mx 0 (ji6)) 0 0 0) = some (r1, r2, r3, r4, r5, r6, r7, r8) := by first | (rw [hji6] at H; exact H) | (simp only [hji6] at H ⊢; exact H)
  (try rw [hji6] at A4)
  (try rw [hji6] at A5)
  have hji6_ : (if (wrap64 (a1_0 + a2_2)) < (wrap64 ((wrap64 (Int.tdiv (wrap64 (a2_1 * t195)) 10000)) + t196)) then (wrap64 (a1_0 + a2_2)) else (wrap64 ((wrap64 (Int.tdiv (wrap64 (a2_1 * t195)) 10000)) + t196))) = ji6 := hji6
  obtain ⟨ji7, hji7⟩ : ∃ j_ : Int, (mx 0 (ji6)) = j_ := ⟨_, rfl⟩
  replace H : (gasworksref13_year.l0 k (wrap64 ((wrap64 (a1_0 + a2_2)) - (ji7))) (wrap64 ((ji7) - (mn (ji7) (wrap64 (Int.tdiv (wrap64 (a2_1 * t195)) 10000))))) (wrap64 ((wrap64 (Int.tdiv (wrap64 (a2_1 * t195)) 10000)) - (mn (ji7) (wrap64 (Int.tdiv (wrap64 (a2_1 * t195)) 10000))))) ([] : List Int) 0 a0_0 a0_1 a0_2 a0_3 a0_4 a0_5 a1_0 l1_1 t195 (wrap64 (Int.tdiv (wrap64 (a2_1 * t195)) 10000)) ji7 0 0 0) = some (r1, r2, r3, r4, r5, r6, r7, r8) := by first | (rw [hji7] at H; exact H) | (simp only [hji7] at H ⊢; exact H)
  (try rw [hji7] at A4)
  (try rw [hji7] at A5)
  have hji7_ : (if 0 < (ji6) then (ji6) else 0) = ji7 := hji7
  obtain ⟨ji8, hji8⟩ : ∃ j_ : Int, (mn (ji7) (wrap64 (Int.tdiv (wrap64 (a2_1 * t195)) 10000))) = j_ := ⟨_, rfl⟩
  replace H : (gasworksref13_year.l0 k (wrap64 ((wrap64 (a1_0 + a2_2)) - (ji7))) (wrap64 ((ji7) - (ji8))) (wrap64 ((wrap64 (Int.tdiv (wrap64 (a2_1 * t195)) 10000)) - (ji8))) ([] : List Int) 0 a0_0 a0_1 a0_2 a0_3 a0_4 a0_5 a1_0 l1_1 t195 (wrap64 (Int.tdiv (wrap64 (a2_1 * t195)) 10000)) ji7 0 0 0) = some (r1, r2, r3, r4, r5, r6, r7, r8) := by first | (rw [hji8] at H; exact H) | (simp only [hji8] at H ⊢; exact H)
  (try rw [hji8] at A4)
  (try rw [hji8] at A5)
  have hji8_ : (if (wrap64 (Int.tdiv (wrap64 (a2_1 * t195)) 10000)) < (ji7) then (wrap64 (Int.tdiv (wrap64 (a2_1 * t195)) 10000)) else (ji7)) = ji8 := hji8
  have H' := Aside0.mk H
  clear H
  go_enter Try.func35, Try.ntmps35
  try go_wp2_with (first | ((with_reducible refine gate_dst (N := 3) rfl ?_); refine box_event ?hg (N := 3) ?hd (cs := #[.int .i64 a0_0, .int .i64 a0_1, .int .i64 a0_2, .int .i64 a0_3, .int .i64 a0_4, .int .i64 a0_5]) (t := 23) ?hr ?_; (case hd => rfl); (case hg => rfl); (case hr => first | (go_simp; done) | (go_simp; rfl)); intro gb189 hg w10 hbox hb; have n0_ := Aside0.mk (below_step (by repeat (first | (with_reducible first | exact HB.out | apply below_alloc | apply pw_below_drewN | apply below_drew1) | exact HB.out)) hb); have n1_ := Aside0.mk (hbox); have n2_ := Aside0.mk ((by rw [hg]; exact (below_size (by repeat (first | (with_reducible first | exact HB.out | apply below_alloc | apply pw_below_drewN | apply below_drew1) | exact HB.out))) : w.heap.size ≤ gb189)); have n3_ := Aside0.mk ((by rw [hg]; exact (below_size (by repeat (first | (with_reducible first | exact HB.out | apply below_alloc | apply pw_below_drewN | apply below_drew1) | exact HB.out))) : w.heap.size ≤ gb189)); clear HB; have HB := n0_; have BK189 := n1_; have GW189 := n2_; have GE189 := n3_; clear n0_ n1_ n2_ n3_; clear hb hbox hg) | ((with_reducible refine gate_dst (N := 4) rfl ?_); refine box_event ?hg (N := 4) ?hd (cs := #[.int .i64 a1_0, .slice A1_1 l1_1.length c1_1]) (t := 72) ?hr ?_; (case hd => rfl); (case hg => rfl); (case hr => first | (go_simp; done) | (go_simp; rfl)); intro gb190 hg w11 hbox hb; have n0_ := Aside0.mk (blk_below (g := gb189) (o := .cells #[.int .i64 a0_0, .int .i64 a0_1, .int .i64 a0_2, .int .i64 a0_3, .int .i64 a0_4, .int .i64 a0_5] 23 (0, 0)) (by (with_reducible repeat (first | refine blk_drewN ?_ _ | refine blk_drew ?_ | refine blk_alloc ?_ _)); exact BK189.out) hb); have n1_ := Aside0.mk (below_step (by repeat (first | (with_reducible first | exact HB.out | apply below_alloc | apply pw_below_drewN | apply below_drew1 | refine below_set ?_ GE189.out) | exact HB.out)) hb); have n2_ := Aside0.mk (hbox); have n3_ := Aside0.mk ((by rw [hg]; exact (below_size (by repeat (first | (with_reducible first | exact HB.out | apply below_alloc | apply pw_below_drewN | apply below_drew1 | refine below_set ?_ GE189.out) | exact HB.out))) : w.heap.size ≤ gb190)); have n4_ := Aside0.mk ((by rw [hg]; exact (below_size (by repeat (first | (with_reducible first | exact HB.out | apply below_alloc | apply pw_below_drewN | apply below_drew1 | refine below_set ?_ GE189.out) | exact HB.out))) : w.heap.size ≤ gb190)); have n5_ := Aside0.mk ((by rw [hg]; exact Nat.ne_of_lt (blk_lt (g := gb189) (o := .cells #[.int .i64 a0_0, .int .i64 a0_1, .int .i64 a0_2, .int .i64 a0_3, .int .i64 a0_4, .int .i64 a0_5] 23 (0, 0)) (by (with_reducible repeat (first | refine blk_drewN ?_ _ | refine blk_drew ?_ | refine blk_alloc ?_ _)); exact BK189.out)) : gb189 ≠ gb190)); have n6_ := Aside0.mk ((by rw [hg]; exact Nat.ne_of_gt (blk_lt (g := gb189) (o := .cells #[.int .i64 a0_0, .int .i64 a0_1, .int .i64 a0_2, .int .i64 a0_3, .int .i64 a0_4, .int .i64 a0_5] 23 (0, 0)) (by (with_reducible repeat (first | refine blk_drewN ?_ _ | refine blk_drew ?_ | refine blk_alloc ?_ _)); exact BK189.out)) : gb190 ≠ gb189)); clear BK189; clear HB; have BK189 := n0_; have HB := n1_; have BK190 := n2_; have GW190 := n3_; have GE190 := n4_; have NB189_190 := n5_; have NB190_189 := n6_; clear n0_ n1_ n2_ n3_ n4_ n5_ n6_; clear hb hbox hg) | ((with_reducible refine gate_dst (N := 5) rfl ?_); refine box_event ?hg (N := 5) ?hd (cs := #[.int .i64 a2_0, .int .i64 a2_1, .int .i64 a2_2]) (t := 47) ?hr ?_; (case hd => rfl); (case hg => rfl); (case hr => first | (go_simp; done) | (go_simp; rfl)); intro gb191 hg w12 hbox hb; have n0_ := Aside0.mk (blk_below (g := gb189) (o := .cells #[.int .i64 a0_0, .int .i64 a0_1, .int .i64 a0_2, .int .i64 a0_3, .int .i64 a0_4, .int .i64 a0_5] 23 (0, 0)) (by (with_reducible repeat (first | refine blk_drewN ?_ _ | refine blk_drew ?_ | refine blk_alloc ?_ _)); exact BK189.out) hb); have n1_ := Aside0.mk (blk_below (g := gb190) (o := .cells #[.int .i64 a1_0, .slice A1_1 l1_1.length c1_1] 72 (0, 0)) (by (with_reducible repeat (first | refine blk_drewN ?_ _ | refine blk_drew ?_ | refine blk_alloc ?_ _)); exact BK190.out) hb); have n2_ := Aside0.mk (below_step (by repeat (first | (with_reducible first | exact HB.out | apply below_alloc | apply pw_below_drewN | apply below_drew1 | refine below_set ?_ GE189.out | refine below_set ?_ GE190.out) | exact HB.out)) hb); have n3_ := Aside0.mk (hbox); have n4_ := Aside0.mk ((by rw [hg]; exact (below_size (by repeat (first | (with_reducible first | exact HB.out | apply below_alloc | apply pw_below_drewN | apply below_drew1 | refine below_set ?_ GE189.out | refine below_set ?_ GE190.out) | exact HB.out))) : w.heap.size ≤ gb191)); have n5_ := Aside0.mk ((by rw [hg]; exact (below_size (by repeat (first | (with_reducible first | exact HB.out | apply below_alloc | apply pw_below_drewN | apply below_drew1 | refine below_set ?_ GE189.out | refine below_set ?_ GE190.out) | exact HB.out))) : w.heap.size ≤ gb191)); have n6_ := Aside0.mk ((by rw [hg]; exact Nat.ne_of_lt (blk_lt (g := gb189) (o := .cells #[.int .i64 a0_0, .int .i64 a0_1, .int .i64 a0_2, .int .i64 a0_3, .int .i64 a0_4, .int .i64 a0_5] 23 (0, 0)) (by (with_reducible repeat (first | refine blk_drewN ?_ _ | refine blk_drew ?_ | refine blk_alloc ?_ _)); exact BK189.out)) : gb189 ≠ gb191)); have n7_ := Aside0.mk ((by rw [hg]; exact Nat.ne_of_gt (blk_lt (g := gb189) (o := .cells #[.int .i64 a0_0, .int .i64 a0_1, .int .i64 a0_2, .int .i64 a0_3, .int .i64 a0_4, .int .i64 a0_5] 23 (0, 0)) (by (with_reducible repeat (first | refine blk_drewN ?_ _ | refine blk_drew ?_ | refine blk_alloc ?_ _)); exact BK189.out)) : gb191 ≠ gb189)); have n8_ := Aside0.mk ((by rw [hg]; exact Nat.ne_of_lt (blk_lt (g := gb190) (o := .cells #[.int .i64 a1_0, .slice A1_1 l1_1.length c1_1] 72 (0, 0)) (by (with_reducible repeat (first | refine blk_drewN ?_ _ | refine blk_drew ?_ | refine blk_alloc ?_ _)); exact BK190.out)) : gb190 ≠ gb191)); have n9_ := Aside0.mk ((by rw [hg]; exact Nat.ne_of_gt (blk_lt (g := gb190) (o := .cells #[.int .i64 a1_0, .slice A1_1 l1_1.length c1_1] 72 (0, 0)) (by (with_reducible repeat (first | refine blk_drewN ?_ _ | refine blk_drew ?_ | refine blk_alloc ?_ _)); exact BK190.out)) : gb191 ≠ gb190)); clear BK189; clear BK190; clear HB; have BK189 := n0_; have BK190 := n1_; have HB := n2_; have BK191 := n3_; have GW191 := n4_; have GE191 := n5_; have NB189_191 := n6_; have NB191_189 := n7_; have NB190_191 := n8_; have NB191_190 := n9_; clear n0_ n1_ n2_ n3_ n4_ n5_ n6_ n7_ n8_ n9_; clear hb hbox hg) | ((with_reducible refine gate_dst (N := 6) rfl ?_); refine box_event ?hg (N := 6) ?hd (cs := #[.int .i64 0, .int .i64 0, .int .i64 0, .int .i64 0, .int .i64 0, .int .i64 0]) (t := 45) ?hr ?_; (case hd => rfl); (case hg => rfl); (case hr => first | (go_simp; done) | (go_simp; rfl)); intro gb192 hg w13 hbox hb; have n0_ := Aside0.mk (blk_below (g := gb189) (o := .cells #[.int .i64 a0_0, .int .i64 a0_1, .int .i64 a0_2, .int .i64 a0_3, .int .i64 a0_4, .int .i64 a0_5] 23 (0, 0)) (by (with_reducible repeat (first | refine blk_drewN ?_ _ | refine blk_drew ?_ | refine blk_alloc ?_ _)); exact BK189.out) hb); have n1_ := Aside0.mk (blk_below (g := gb190) (o := .cells #[.int .i64 a1_0, .slice A1_1 l1_1.length c1_1] 72 (0, 0)) (by (with_reducible repeat (first | refine blk_drewN ?_ _ | refine blk_drew ?_ | refine blk_alloc ?_ _)); exact BK190.out) hb); have n2_ := Aside0.mk (blk_below (g := gb191) (o := .cells #[.int .i64 a2_0, .int .i64 a2_1, .int .i64 a2_2] 47 (0, 0)) (by (with_reducible repeat (first | refine blk_drewN ?_ _ | refine blk_drew ?_ | refine blk_alloc ?_ _)); exact BK191.out) hb); have n3_ := Aside0.mk (below_step (by repeat (first | (with_reducible first | exact HB.out | apply below_alloc | apply pw_below_drewN | apply below_drew1 | refine below_set ?_ GE189.out | refine below_set ?_ GE190.out | refine below_set ?_ GE191.out) | exact HB.out)) hb); have n4_ := Aside0.mk (hbox); have n5_ := Aside0.mk ((by rw [hg]; exact (below_size (by repeat (first | (with_reducible first | exact HB.out | apply below_alloc | apply pw_below_drewN | apply below_drew1 | refine below_set ?_ GE189.out | refine below_set ?_ GE190.out | refine below_set ?_ GE191.out) | exact HB.out))) : w.heap.size ≤ gb192)); have n6_ := Aside0.mk ((by rw [hg]; exact (below_size (by repeat (first | (with_reducible first | exact HB.out | apply below_alloc | apply pw_below_drewN | apply below_drew1 | refine below_set ?_ GE189.out | refine below_set ?_ GE190.out | refine below_set ?_ GE191.out) | exact HB.out))) : w.heap.size ≤ gb192)); have n7_ := Aside0.mk ((by rw [hg]; exact Nat.ne_of_lt (blk_lt (g := gb189) (o := .cells #[.int .i64 a0_0, .int .i64 a0_1, .int .i64 a0_2, .int .i64 a0_3, .int .i64 a0_4, .int .i64 a0_5] 23 (0, 0)) (by (with_reducible repeat (first | refine blk_drewN ?_ _ | refine blk_drew ?_ | refine blk_alloc ?_ _)); exact BK189.out)) : gb189 ≠ gb192)); have n8_ := Aside0.mk ((by rw [hg]; exact Nat.ne_of_gt (blk_lt (g := gb189) (o := .cells #[.int .i64 a0_0, .int .i64 a0_1, .int .i64 a0_2, .int .i64 a0_3, .int .i64 a0_4, .int .i64 a0_5] 23 (0, 0)) (by (with_reducible repeat (first | refine blk_drewN ?_ _ | refine blk_drew ?_ | refine blk_alloc ?_ _)); exact BK189.out)) : gb192 ≠ gb189)); have n9_ := Aside0.mk ((by rw [hg]; exact Nat.ne_of_lt (blk_lt (g := gb190) (o := .cells #[.int .i64 a1_0, .slice A1_1 l1_1.length c1_1] 72 (0, 0)) (by (with_reducible repeat (first | refine blk_drewN ?_ _ | refine blk_drew ?_ | refine blk_alloc ?_ _)); exact BK190.out)) : gb190 ≠ gb192)); have n10_ := Aside0.mk ((by rw [hg]; exact Nat.ne_of_gt (blk_lt (g := gb190) (o := .cells #[.int .i64 a1_0, .slice A1_1 l1_1.length c1_1] 72 (0, 0)) (by (with_reducible repeat (first | refine blk_drewN ?_ _ | refine blk_drew ?_ | refine blk_alloc ?_ _)); exact BK190.out)) : gb192 ≠ gb190)); have n11_ := Aside0.mk ((by rw [hg]; exact Nat.ne_of_lt (blk_lt (g := gb191) (o := .cells #[.int .i64 a2_0, .int .i64 a2_1, .int .i64 a2_2] 47 (0, 0)) (by (with_reducible repeat (first | refine blk_drewN ?_ _ | refine blk_drew ?_ | refine blk_alloc ?_ _)); exact BK191.out)) : gb191 ≠ gb192)); have n12_ := Aside0.mk ((by rw [hg]; exact Nat.ne_of_gt (blk_lt (g := gb191) (o := .cells #[.int .i64 a2_0, .int .i64 a2_1, .int .i64 a2_2] 47 (0, 0)) (by (with_reducible repeat (first | refine blk_drewN ?_ _ | refine blk_drew ?_ | refine blk_alloc ?_ _)); exact BK191.out)) : gb192 ≠ gb191)); clear BK189; clear BK190; clear BK191; clear HB; have BK189 := n0_; have BK190 := n1_; have BK191 := n2_; have HB := n3_; have BK192 := n4_; have GW192 := n5_; have GE192 := n6_; have NB189_192 := n7_; have NB192_189 := n8_; have NB190_192 := n9_; have NB192_190 := n10_; have NB191_192 := n11_; have NB192_191 := n12_; clear n0_ n1_ n2_ n3_ n4_ n5_ n6_ n7_ n8_ n9_ n10_ n11_ n12_; clear hb hbox hg) | ((with_reducible refine gate_dst (N := 7) rfl ?_); refine box_event ?hg (N := 7) ?hd (cs := #[.int .i64 0, .slice none 0 0]) (t := 72) ?hr ?_; (case hd => rfl); (case hg => rfl); (case hr => first | (go_simp; done) | (go_simp; rfl)); intro gb193 hg w14 hbox hb; have n0_ := Aside0.mk (blk_below (g := gb189) (o := .cells #[.int .i64 a0_0, .int .i64 a0_1, .int .i64 a0_2, .int .i64 a0_3, .int .i64 a0_4, .int .i64 a0_5] 23 (0, 0)) (by (with_reducible repeat (first | refine blk_drewN ?_ _ | refine blk_drew ?_ | refine blk_alloc ?_ _)); exact BK189.out) hb); have n1_ := Aside0.mk (blk_below (g := gb190) (o := .cells #[.int .i64 a1_0, .slice A1_1 l1_1.length c1_1] 72 (0, 0)) (by (with_reducible repeat (first | refine blk_drewN ?_ _ | refine blk_drew ?_ | refine blk_alloc ?_ _)); exact BK190.out) hb); have n2_ := Aside0.mk (blk_below (g := gb191) (o := .cells #[.int .i64 a2_0, .int .i64 a2_1, .int .i64 a2_2] 47 (0, 0)) (by (with_reducible repeat (first | refine blk_drewN ?_ _ | refine blk_drew ?_ | refine blk_alloc ?_ _)); exact BK191.out) hb); have n3_ := Aside0.mk (blk_below (g := gb192) (o := .cells #[.int .i64 0, .int .i64 0, .int .i64 0, .int .i64 0, .int .i64 0, .int .i64 0] 45 (0, 0)) (by (with_reducible repeat (first | refine blk_drewN ?_ _ | refine blk_drew ?_ | refine blk_alloc ?_ _)); exact BK192.out) hb); have n4_ := Aside0.mk (below_step (by repeat (first | (with_reducible first | exact HB.out | apply below_alloc | apply pw_below_drewN | apply below_drew1 | refine below_set ?_ GE189.out | refine below_set ?_ GE190.out | refine below_set ?_ GE191.out | refine below_set ?_ GE192.out) | exact HB.out)) hb); have n5_ := Aside0.mk (hbox); have n6_ := Aside0.mk ((by rw [hg]; exact (below_size (by repeat (first | (with_reducible first | exact HB.out | apply below_alloc | apply pw_below_drewN | apply below_drew1 | refine below_set ?_ GE189.out | refine below_set ?_ GE190.out | refine below_set ?_ GE191.out | refine below_set ?_ GE192.out) | exact HB.out))) : w.heap.size ≤ gb193)); have n7_ := Aside0.mk ((by rw [hg]; exact (below_size (by repeat (first | (with_reducible first | exact HB.out | apply below_alloc | apply pw_below_drewN | apply below_drew1 | refine below_set ?_ GE189.out | refine below_set ?_ GE190.out | refine below_set ?_ GE191.out | refine below_set ?_ GE192.out) | exact HB.out))) : w.heap.size ≤ gb193)); have n8_ := Aside0.mk ((by rw [hg]; exact Nat.ne_of_lt (blk_lt (g := gb189) (o := .cells #[.int .i64 a0_0, .int .i64 a0_1, .int .i64 a0_2, .int .i64 a0_3, .int .i64 a0_4, .int .i64 a0_5] 23 (0, 0)) (by (with_reducible repeat (first | refine blk_drewN ?_ _ | refine blk_drew ?_ | refine blk_alloc ?_ _)); exact BK189.out)) : gb189 ≠ gb193)); have n9_ := Aside0.mk ((by rw [hg]; exact Nat.ne_of_gt (blk_lt (g := gb189) (o := .cells #[.int .i64 a0_0, .int .i64 a0_1, .int .i64 a0_2, .int .i64 a0_3, .int .i64 a0_4, .int .i64 a0_5] 23 (0, 0)) (by (with_reducible repeat (first | refine blk_drewN ?_ _ | refine blk_drew ?_ | refine blk_alloc ?_ _)); exact BK189.out)) : gb193 ≠ gb189)); have n10_ := Aside0.mk ((by rw [hg]; exact Nat.ne_of_lt (blk_lt (g := gb190) (o := .cells #[.int .i64 a1_0, .slice A1_1 l1_1.length c1_1] 72 (0, 0)) (by (with_reducible repeat (first | refine blk_drewN ?_ _ | refine blk_drew ?_ | refine blk_alloc ?_ _)); exact BK190.out)) : gb190 ≠ gb193)); have n11_ := Aside0.mk ((by rw [hg]; exact Nat.ne_of_gt (blk_lt (g := gb190) (o := .cells #[.int .i64 a1_0, .slice A1_1 l1_1.length c1_1] 72 (0, 0)) (by (with_reducible repeat (first | refine blk_drewN ?_ _ | refine blk_drew ?_ | refine blk_alloc ?_ _)); exact BK190.out)) : gb193 ≠ gb190)); have n12_ := Aside0.mk ((by rw [hg]; exact Nat.ne_of_lt (blk_lt (g := gb191) (o := .cells #[.int .i64 a2_0, .int .i64 a2_1, .int .i64 a2_2] 47 (0, 0)) (by (with_reducible repeat (first | refine blk_drewN ?_ _ | refine blk_drew ?_ | refine blk_alloc ?_ _)); exact BK191.out)) : gb191 ≠ gb193)); have n13_ := Aside0.mk ((by rw [hg]; exact Nat.ne_of_gt (blk_lt (g := gb191) (o := .cells #[.int .i64 a2_0, .int .i64 a2_1, .int .i64 a2_2] 47 (0, 0)) (by (with_reducible repeat (first | refine blk_drewN ?_ _ | refine blk_drew ?_ | refine blk_alloc ?_ _)); exact BK191.out)) : gb193 ≠ gb191)); have n14_ := Aside0.mk ((by rw [hg]; exact Nat.ne_of_lt (blk_lt (g := gb192) (o := .cells #[.int .i64 0, .int .i64 0, .int .i64 0, .int .i64 0, .int .i64 0, .int .i64 0] 45 (0, 0)) (by (with_reducible repeat (first | refine blk_drewN ?_ _ | refine blk_drew ?_ | refine blk_alloc ?_ _)); exact BK192.out)) : gb192 ≠ gb193)); have n15_ := Aside0.mk ((by rw [hg]; exact Nat.ne_of_gt (blk_lt (g := gb192) (o := .cells #[.int .i64 0, .int .i64 0, .int .i64 0, .int .i64 0, .int .i64 0, .int .i64 0] 45 (0, 0)) (by (with_reducible repeat (first | refine blk_drewN ?_ _ | refine blk_drew ?_ | refine blk_alloc ?_ _)); exact BK192.out)) : gb193 ≠ gb192)); clear BK189; clear BK190; clear BK191; clear BK192; clear HB; have BK189 := n0_; have BK190 := n1_; have BK191 := n2_; have BK192 := n3_; have HB := n4_; have BK193 := n5_; have GW193 := n6_; have GE193 := n7_; have NB189_193 := n8_; have NB193_189 := n9_; have NB190_193 := n10_; have NB193_190 := n11_; have NB191_193 := n12_; have NB193_191 := n13_; have NB192_193 := n14_; have NB193_192 := n15_; clear n0_ n1_ n2_ n3_ n4_ n5_ n6_ n7_ n8_ n9_ n10_ n11_ n12_ n13_ n14_ n15_; clear hb hbox hg) | ((with_reducible refine gate_dst (N := 8) rfl ?_); refine box_event ?hg (N := 8) ?hd (cs := #[.int .i64 0, .int .i64 0, .int .i64 0, .int .i64 0, .int .i64 0, .int .i64 0]) (t := 45) ?hr ?_; (case hd => rfl); (case hg => rfl); (case hr => first | (go_simp; done) | (go_simp; rfl)); intro gb194 hg w15 hbox hb; have n0_ := Aside0.mk (blk_below (g := gb189) (o := .cells #[.int .i64 a0_0, .int .i64 a0_1, .int .i64 a0_2, .int .i64 a0_3, .int .i64 a0_4, .int .i64 a0_5] 23 (0, 0)) (by (with_reducible repeat (first | refine blk_drewN ?_ _ | refine blk_drew ?_ | refine blk_alloc ?_ _)); exact BK189.out) hb); have n1_ := Aside0.mk (blk_below (g := gb190) (o := .cells #[.int .i64 a1_0, .slice A1_1 l1_1.length c1_1] 72 (0, 0)) (by (with_reducible repeat (first | refine blk_drewN ?_ _ | refine blk_drew ?_ | refine blk_alloc ?_ _)); exact BK190.out) hb); have n2_ := Aside0.mk (blk_below (g := gb191) (o := .cells #[.int .i64 a2_0, .int .i64 a2_1, .int .i64 a2_2] 47 (0, 0)) (by (with_reducible repeat (first | refine blk_drewN ?_ _ | refine blk_drew ?_ | refine blk_alloc ?_ _)); exact BK191.out) hb); have n3_ := Aside0.mk (blk_below (g := gb192) (o := .cells #[.int .i64 0, .int .i64 0, .int .i64 0, .int .i64 0, .int .i64 0, .int .i64 0] 45 (0, 0)) (by (with_reducible repeat (first | refine blk_drewN ?_ _ | refine blk_drew ?_ | refine blk_alloc ?_ _)); exact BK192.out) hb); have n4_ := Aside0.mk (blk_below (g := gb193) (o := .cells #[.int .i64 0, .slice none 0 0] 72 (0, 0)) (by (with_reducible repeat (first | refine blk_drewN ?_ _ | refine blk_drew ?_ | refine blk_alloc ?_ _)); exact BK193.out) hb); have n5_ := Aside0.mk (below_step (by repeat (first | (with_reducible first | exact HB.out | apply below_alloc | apply pw_below_drewN | apply below_drew1 | refine below_set ?_ GE189.out | refine below_set ?_ GE190.out | refine below_set ?_ GE191.out | refine below_set ?_ GE192.out | refine below_set ?_ GE193.out) | exact HB.out)) hb); have n6_ := Aside0.mk (hbox); have n7_ := Aside0.mk ((by rw [hg]; exact (below_size (by repeat (first | (with_reducible first | exact HB.out | apply below_alloc | apply pw_below_drewN | apply below_drew1 | refine below_set ?_ GE189.out | refine below_set ?_ GE190.out | refine below_set ?_ GE191.out | refine below_set ?_ GE192.out | refine below_set ?_ GE193.out) | exact HB.out))) : w.heap.size ≤ gb194)); have n8_ := Aside0.mk ((by rw [hg]; exact (below_size (by repeat (first | (with_reducible first | exact HB.out | apply below_alloc | apply pw_below_drewN | apply below_drew1 | refine below_set ?_ GE189.out | refine below_set ?_ GE190.out | refine below_set ?_ GE191.out | refine below_set ?_ GE192.out | refine below_set ?_ GE193.out) | exact HB.out))) : w.heap.size ≤ gb194)); have n9_ := Aside0.mk ((by rw [hg]; exact Nat.ne_of_lt (blk_lt (g := gb189) (o := .cells #[.int .i64 a0_0, .int .i64 a0_1, .int .i64 a0_2, .int .i64 a0_3, .int .i64 a0_4, .int .i64 a0_5] 23 (0, 0)) (by (with_reducible repeat (first | refine blk_drewN ?_ _ | refine blk_drew ?_ | refine blk_alloc ?_ _)); exact BK189.out)) : gb189 ≠ gb194)); have n10_ := Aside0.mk ((by rw [hg]; exact Nat.ne_of_gt (blk_lt (g := gb189) (o := .cells #[.int .i64 a0_0, .int .i64 a0_1, .int .i64 a0_2, .int .i64 a0_3, .int .i64 a0_4, .int .i64 a0_5] 23 (0, 0)) (by (with_reducible repeat (first | refine blk_drewN ?_ _ | refine blk_drew ?_ | refine blk_alloc ?_ _)); exact BK189.out)) : gb194 ≠ gb189)); have n11_ := Aside0.mk ((by rw [hg]; exact Nat.ne_of_lt (blk_lt (g := gb190) (o := .cells #[.int .i64 a1_0, .slice A1_1 l1_1.length c1_1] 72 (0, 0)) (by (with_reducible repeat (first | refine blk_drewN ?_ _ | refine blk_drew ?_ | refine blk_alloc ?_ _)); exact BK190.out)) : gb190 ≠ gb194)); have n12_ := Aside0.mk ((by rw [hg]; exact Nat.ne_of_gt (blk_lt (g := gb190) (o := .cells #[.int .i64 a1_0, .slice A1_1 l1_1.length c1_1] 72 (0, 0)) (by (with_reducible repeat (first | refine blk_drewN ?_ _ | refine blk_drew ?_ | refine blk_alloc ?_ _)); exact BK190.out)) : gb194 ≠ gb190)); have n13_ := Aside0.mk ((by rw [hg]; exact Nat.ne_of_lt (blk_lt (g := gb191) (o := .cells #[.int .i64 a2_0, .int .i64 a2_1, .int .i64 a2_2] 47 (0, 0)) (by (with_reducible repeat (first | refine blk_drewN ?_ _ | refine blk_drew ?_ | refine blk_alloc ?_ _)); exact BK191.out)) : gb191 ≠ gb194)); have n14_ := Aside0.mk ((by rw [hg]; exact Nat.ne_of_gt (blk_lt (g := gb191) (o := .cells #[.int .i64 a2_0, .int .i64 a2_1, .int .i64 a2_2] 47 (0, 0)) (by (with_reducible repeat (first | refine blk_drewN ?_ _ | refine blk_drew ?_ | refine blk_alloc ?_ _)); exact BK191.out)) : gb194 ≠ gb191)); have n15_ := Aside0.mk ((by rw [hg]; exact Nat.ne_of_lt (blk_lt (g := gb192) (o := .cells #[.int .i64 0, .int .i64 0, .int .i64 0, .int .i64 0, .int .i64 0, .int .i64 0] 45 (0, 0)) (by (with_reducible repeat (first | refine blk_drewN ?_ _ | refine blk_drew ?_ | refine blk_alloc ?_ _)); exact BK192.out)) : gb192 ≠ gb194)); have n16_ := Aside0.mk ((by rw [hg]; exact Nat.ne_of_gt (blk_lt (g := gb192) (o := .cells #[.int .i64 0, .int .i64 0, .int .i64 0, .int .i64 0, .int .i64 0, .int .i64 0] 45 (0, 0)) (by (with_reducible repeat (first | refine blk_drewN ?_ _ | refine blk_drew ?_ | refine blk_alloc ?_ _)); exact BK192.out)) : gb194 ≠ gb192)); have n17_ := Aside0.mk ((by rw [hg]; exact Nat.ne_of_lt (blk_lt (g := gb193) (o := .cells #[.int .i64 0, .slice none 0 0] 72 (0, 0)) (by (with_reducible repeat (first | refine blk_drewN ?_ _ | refine blk_drew ?_ | refine blk_alloc ?_ _)); exact BK193.out)) : gb193 ≠ gb194)); have n18_ := Aside0.mk ((by rw [hg]; exact Nat.ne_of_gt (blk_lt (g := gb193) (o := .cells #[.int .i64 0, .slice none 0 0] 72 (0, 0)) (by (with_reducible repeat (first | refine blk_drewN ?_ _ | refine blk_drew ?_ | refine blk_alloc ?_ _)); exact BK193.out)) : gb194 ≠ gb193)); clear BK189; clear BK190; clear BK191; clear BK192; clear BK193; clear HB; have BK189 := n0_; have BK190 := n1_; have BK191 := n2_; have BK192 := n3_; have BK193 := n4_; have HB := n5_; have BK194 := n6_; have GW194 := n7_; have GE194 := n8_; have NB189_194 := n9_; have NB194_189 := n10_; have NB190_194 := n11_; have NB194_190 := n12_; have NB191_194 := n13_; have NB194_191 := n14_; have NB192_194 := n15_; have NB194_192 := n16_; have NB193_194 := n17_; have NB194_193 := n18_; clear n0_ n1_ n2_ n3_ n4_ n5_ n6_ n7_ n8_ n9_ n10_ n11_ n12_ n13_ n14_ n15_ n16_ n17_ n18_; clear hb hbox hg; have hnb16 := NB189_190.out; have hnc16 := NB190_189.out; have hnb17 := NB189_191.out; have hnc17 := NB191_189.out; have hnb18 := NB189_192.out; have hnc18 := NB192_189.out; have hnb19 := NB189_193.out; have hnc19 := NB193_189.out; have hnb20 := NB189_194.out; have hnc20 := NB194_189.out; have hcz21_0 : w15.cell? ⟨gb189, 0, none⟩ = some (.int .i64 a0_0) := (blk_cell BK189.out 0).trans rfl; have hcz21_1 : w15.cell? ⟨gb189, 1, none⟩ = some (.int .i64 a0_1) := (blk_cell BK189.out 1).trans rfl; have hcz21_2 : w15.cell? ⟨gb189, 2, none⟩ = some (.int .i64 a0_2) := (blk_cell BK189.out 2).trans rfl; have hcz21_3 : w15.cell? ⟨gb189, 3, none⟩ = some (.int .i64 a0_3) := (blk_cell BK189.out 3).trans rfl; have hcz21_4 : w15.cell? ⟨gb189, 4, none⟩ = some (.int .i64 a0_4) := (blk_cell BK189.out 4).trans rfl; have hcz21_5 : w15.cell? ⟨gb189, 5, none⟩ = some (.int .i64 a0_5) := (blk_cell BK189.out 5).trans rfl; have hfz21_0 := blk_frozen BK189.out 0; have hfz21_1 := blk_frozen BK189.out 1; have hfz21_2 := blk_frozen BK189.out 2; have hfz21_3 := blk_frozen BK189.out 3; have hfz21_4 := blk_frozen BK189.out 4; have hfz21_5 := blk_frozen BK189.out 5; have hnb22 := NB191_190.out; have hnc22 := NB190_191.out; have hnb23 := NB191_192.out; have hnc23 := NB192_191.out; have hnb24 := NB191_193.out; have hnc24 := NB193_191.out; have hnb25 := NB191_194.out; have hnc25 := NB194_191.out; have hcz26_0 : w15.cell? ⟨gb191, 0, none⟩ = some (.int .i64 a2_0) := (blk_cell BK191.out 0).trans rfl; have hcz26_1 : w15.cell? ⟨gb191, 1, none⟩ = some (.int .i64 a2_1) := (blk_cell BK191.out 1).trans rfl; have hcz26_2 : w15.cell? ⟨gb191, 2, none⟩ = some (.int .i64 a2_2) := (blk_cell BK191.out 2).trans rfl; have hfz26_0 := blk_frozen BK191.out 0; have hfz26_1 := blk_frozen BK191.out 1; have hfz26_2 := blk_frozen BK191.out 2) | ((with_reducible refine gate_callee (f := 29) rfl ?_); refine goesL_ (some 18) rfl rfl Try.func29 (by kernel_rfl) rfl #[.agg #[.int .i64 a0_0, .int .i64 a0_1, .int .i64 a0_2, .int .i64 a0_3, .int .i64 a0_4, .int .i64 a0_5], .int .i64 a2_0] rfl (by (try simp only [List.map_toArray, List.map_cons, List.map_nil]); first | done | rfl | (simp only [List.length_drop, List.length_take]; rfl)) ?_; (with_reducible refine (gasworksref13_rate.calls a0_0 a0_1 a0_2 a0_3 a0_4 a0_5 a2_0 t195 _ A4.out).mono ?_); rintro e w27 ⟨rfl, hb⟩; refine ⟨_, rfl, ?_⟩; have n0_ := Aside0.mk (blk_below (g := gb189) (o := .cells #[.int .i64 a0_0, .int .i64 a0_1, .int .i64 a0_2, .int .i64 a0_3, .int .i64 a0_4, .int .i64 a0_5] 23 (0, 0)) (by (with_reducible repeat (first | refine blk_drewN ?_ _ | refine blk_drew ?_ | refine blk_alloc ?_ _)); exact BK189.out) hb); have n1_ := Aside0.mk (blk_below (g := gb190) (o := .cells #[.int .i64 a1_0, .slice A1_1 l1_1.length c1_1] 72 (0, 0)) (by (with_reducible repeat (first | refine blk_drewN ?_ _ | refine blk_drew ?_ | refine blk_alloc ?_ _)); exact BK190.out) hb); have n2_ := Aside0.mk (blk_below (g := gb191) (o := .cells #[.int .i64 a2_0, .int .i64 a2_1, .int .i64 a2_2] 47 (0, 0)) (by (with_reducible repeat (first | refine blk_drewN ?_ _ | refine blk_drew ?_ | refine blk_alloc ?_ _)); exact BK191.out) hb); have n3_ := Aside0.mk (blk_below (g := gb192) (o := .cells #[.int .i64 0, .int .i64 0, .int .i64 0, .int .i64 0, .int .i64 0, .int .i64 0] 45 (0, 0)) (by (with_reducible repeat (first | refine blk_drewN ?_ _ | refine blk_drew ?_ | refine blk_alloc ?_ _)); exact BK192.out) hb); have n4_ := Aside0.mk (blk_below (g := gb193) (o := .cells #[.int .i64 0, .slice none 0 0] 72 (0, 0)) (by (with_reducible repeat (first | refine blk_drewN ?_ _ | refine blk_drew ?_ | refine blk_alloc ?_ _)); exact BK193.out) hb); have n5_ := Aside0.mk (blk_below (g := gb194) (o := .cells #[.int .i64 0, .int .i64 0, .int .i64 0, .int .i64 0, .int .i64 0, .int .i64 0] 45 (0, 0)) (by (with_reducible repeat (first | refine blk_drewN ?_ _ | refine blk_drew ?_ | refine blk_alloc ?_ _)); exact BK194.out) hb); have n6_ := Aside0.mk (below_step (by repeat (first | (with_reducible first | exact HB.out | apply below_alloc | apply pw_below_drewN | apply below_drew1 | refine below_set ?_ GE189.out | refine below_set ?_ GE190.out | refine below_set ?_ GE191.out | refine below_set ?_ GE192.out | refine below_set ?_ GE193.out | refine below_set ?_ GE194.out) | exact HB.out)) hb); clear BK189; clear BK190; clear BK191; clear BK192; clear BK193; clear BK194; clear HB; have BK189 := n0_; have BK190 := n1_; have BK191 := n2_; have BK192 := n3_; have BK193 := n4_; have BK194 := n5_; have HB := n6_; clear n0_ n1_ n2_ n3_ n4_ n5_ n6_; (try clear hb); (try clear hb2); (try clear hk); (try clear hi); have hnb28 := NB194_190.out; have hnc28 := NB190_194.out; have hnb29 := NB194_192.out; have hnc29 := NB192_194.out; have hnb30 := NB194_193.out; have hnc30 := NB193_194.out; have hcz31_0 : w27.cell? ⟨gb194, 0, none⟩ = some (.int .i64 0) := (blk_cell BK194.out 0).trans rfl; have hcz31_1 : w27.cell? ⟨gb194, 1, none⟩ = some (.int .i64 0) := (blk_cell BK194.out 1).trans rfl; have hcz31_2 : w27.cell? ⟨gb194, 2, none⟩ = some (.int .i64 0) := (blk_cell BK194.out 2).trans rfl; have hcz31_3 : w27.cell? ⟨gb194, 3, none⟩ = some (.int .i64 0) := (blk_cell BK194.out 3).trans rfl; have hcz31_4 : w27.cell? ⟨gb194, 4, none⟩ = some (.int .i64 0) := (blk_cell BK194.out 4).trans rfl; have hcz31_5 : w27.cell? ⟨gb194, 5, none⟩ = some (.int .i64 0) := (blk_cell BK194.out 5).trans rfl; have hfz31_0 := blk_frozen BK194.out 0; have hfz31_1 := blk_frozen BK194.out 1; have hfz31_2 := blk_frozen BK194.out 2; have hfz31_3 := blk_frozen BK194.out 3; have hfz31_4 := blk_frozen BK194.out 4; have hfz31_5 := blk_frozen BK194.out 5; have hcz32_0 : w27.cell? ⟨gb191, 0, none⟩ = some (.int .i64 a2_0) := (blk_cell BK191.out 0).trans rfl; have hcz32_1 : w27.cell? ⟨gb191, 1, none⟩ = some (.int .i64 a2_1) := (blk_cell BK191.out 1).trans rfl; have hcz32_2 : w27.cell? ⟨gb191, 2, none⟩ = some (.int .i64 a2_2) := (blk_cell BK191.out 2).trans rfl; have hfz32_0 := blk_frozen BK191.out 0; have hfz32_1 := blk_frozen BK191.out 1; have hfz32_2 := blk_frozen BK191.out 2; have hnb33 := NB190_192.out; have hnc33 := NB192_190.out; have hnb34 := NB190_193.out; have hnc34 := NB193_190.out; have hcz35_0 : w27.cell? ⟨gb190, 0, none⟩ = some (.int .i64 a1_0) := (blk_cell BK190.out 0).trans rfl; have hcz35_1 : w27.cell? ⟨gb190, 1, none⟩ = some (.slice A1_1 l1_1.length c1_1) := (blk_cell BK190.out 1).trans rfl; have hfz35_0 := blk_frozen BK190.out 0; have hfz35_1 := blk_frozen BK190.out 1))
  have n0_ : Aside0 (((w27.setCell ⟨gb194, 0, none⟩ (.int .i64 t195)).setCell ⟨gb194, 1, none⟩ (.int .i64 (wrap64 (Int.tdiv (wrap64 (a2_1 * t195)) 10000)))).heap[gb189]? = some (.cells #[.int .i64 a0_0, .int .i64 a0_1, .int .i64 a0_2, .int .i64 a0_3, .int .i64 a0_4, .int .i64 a0_5] 23 (0, 0))) := ⟨by (with_reducible repeat (first | refine blk_drewN ?_ _ | refine blk_drew ?_ | refine blk_alloc ?_ _)); refine blk_far ?_ NB189_194.out _; (with_reducible repeat (first | refine blk_drewN ?_ _ | refine blk_drew ?_ | refine blk_alloc ?_ _)); refine blk_far ?_ NB189_194.out _; (with_reducible repeat (first | refine blk_drewN ?_ _ | refine blk_drew ?_ | refine blk_alloc ?_ _)); exact BK189.out⟩
  have n1_ : Aside0 (((w27.setCell ⟨gb194, 0, none⟩ (.int .i64 t195)).setCell ⟨gb194, 1, none⟩ (.int .i64 (wrap64 (Int.tdiv (wrap64 (a2_1 * t195)) 10000)))).heap[gb190]? = some (.cells #[.int .i64 a1_0, .slice A1_1 l1_1.length c1_1] 72 (0, 0))) := ⟨by (with_reducible repeat (first | refine blk_drewN ?_ _ | refine blk_drew ?_ | refine blk_alloc ?_ _)); refine blk_far ?_ NB190_194.out _; (with_reducible repeat (first | refine blk_drewN ?_ _ | refine blk_drew ?_ | refine blk_alloc ?_ _)); refine blk_far ?_ NB190_194.out _; (with_reducible repeat (first | refine blk_drewN ?_ _ | refine blk_drew ?_ | refine blk_alloc ?_ _)); exact BK190.out⟩
  have n2_ : Aside0 (((w27.setCell ⟨gb194, 0, none⟩ (.int .i64 t195)).setCell ⟨gb194, 1, none⟩ (.int .i64 (wrap64 (Int.tdiv (wrap64 (a2_1 * t195)) 10000)))).heap[gb191]? = some (.cells #[.int .i64 a2_0, .int .i64 a2_1, .int .i64 a2_2] 47 (0, 0))) := ⟨by (with_reducible repeat (first | refine blk_drewN ?_ _ | refine blk_drew ?_ | refine blk_alloc ?_ _)); refine blk_far ?_ NB191_194.out _; (with_reducible repeat (first | refine blk_drewN ?_ _ | refine blk_drew ?_ | refine blk_alloc ?_ _)); refine blk_far ?_ NB191_194.out _; (with_reducible repeat (first | refine blk_drewN ?_ _ | refine blk_drew ?_ | refine blk_alloc ?_ _)); exact BK191.out⟩
  have n3_ : Aside0 (((w27.setCell ⟨gb194, 0, none⟩ (.int .i64 t195)).setCell ⟨gb194, 1, none⟩ (.int .i64 (wrap64 (Int.tdiv (wrap64 (a2_1 * t195)) 10000)))).heap[gb192]? = some (.cells #[.int .i64 0, .int .i64 0, .int .i64 0, .int .i64 0, .int .i64 0, .int .i64 0] 45 (0, 0))) := ⟨by (with_reducible repeat (first | refine blk_drewN ?_ _ | refine blk_drew ?_ | refine blk_alloc ?_ _)); refine blk_far ?_ NB192_194.out _; (with_reducible repeat (first | refine blk_drewN ?_ _ | refine blk_drew ?_ | refine blk_alloc ?_ _)); refine blk_far ?_ NB192_194.out _; (with_reducible repeat (first | refine blk_drewN ?_ _ | refine blk_drew ?_ | refine blk_alloc ?_ _)); exact BK192.out⟩
  have n4_ : Aside0 (((w27.setCell ⟨gb194, 0, none⟩ (.int .i64 t195)).setCell ⟨gb194, 1, none⟩ (.int .i64 (wrap64 (Int.tdiv (wrap64 (a2_1 * t195)) 10000)))).heap[gb193]? = some (.cells #[.int .i64 0, .slice none 0 0] 72 (0, 0))) := ⟨by (with_reducible repeat (first | refine blk_drewN ?_ _ | refine blk_drew ?_ | refine blk_alloc ?_ _)); refine blk_far ?_ NB193_194.out _; (with_reducible repeat (first | refine blk_drewN ?_ _ | refine blk_drew ?_ | refine blk_alloc ?_ _)); refine blk_far ?_ NB193_194.out _; (with_reducible repeat (first | refine blk_drewN ?_ _ | refine blk_drew ?_ | refine blk_alloc ?_ _)); exact BK193.out⟩
  have n5_ : Aside0 (((w27.setCell ⟨gb194, 0, none⟩ (.int .i64 t195)).setCell ⟨gb194, 1, none⟩ (.int .i64 (wrap64 (Int.tdiv (wrap64 (a2_1 * t195)) 10000)))).heap[gb194]? = some (.cells #[.int .i64 t195, .int .i64 (wrap64 (Int.tdiv (wrap64 (a2_1 * t195)) 10000)), .int .i64 0, .int .i64 0, .int .i64 0, .int .i64 0] 45 (0, 0))) := ⟨by (with_reducible repeat (first | refine blk_drewN ?_ _ | refine blk_drew ?_ | refine blk_alloc ?_ _)); refine blk_put (cs := #[.int .i64 t195, .int .i64 0, .int .i64 0, .int .i64 0, .int .i64 0, .int .i64 0]) ?_ 1 _ rfl; (with_reducible repeat (first | refine blk_drewN ?_ _ | refine blk_drew ?_ | refine blk_alloc ?_ _)); refine blk_put (cs := #[.int .i64 0, .int .i64 0, .int .i64 0, .int .i64 0, .int .i64 0, .int .i64 0]) ?_ 0 _ rfl; (with_reducible repeat (first | refine blk_drewN ?_ _ | refine blk_drew ?_ | refine blk_alloc ?_ _)); exact BK194.out⟩
  have n6_ : Aside0 (Below w.heap.size w ((w27.setCell ⟨gb194, 0, none⟩ (.int .i64 t195)).setCell ⟨gb194, 1, none⟩ (.int .i64 (wrap64 (Int.tdiv (wrap64 (a2_1 * t195)) 10000))))) := ⟨by repeat (first | (with_reducible first | exact HB.out | apply below_alloc | apply pw_below_drewN | apply below_drew1 | refine below_set ?_ GE189.out | refine below_set ?_ GE190.out | refine below_set ?_ GE191.out | refine below_set ?_ GE192.out | refine below_set ?_ GE193.out | refine below_set ?_ GE194.out) | exact HB.out)⟩
  (try clear BK189)
  (try clear BK190)
  (try clear BK191)
  (try clear BK192)
  (try clear BK193)
  (try clear BK194)
  (try clear HB)
  generalize ((w27.setCell ⟨gb194, 0, none⟩ (.int .i64 t195)).setCell ⟨gb194, 1, none⟩ (.int .i64 (wrap64 (Int.tdiv (wrap64 (a2_1 * t195)) 10000)))) = w36 at n0_ n1_ n2_ n3_ n4_ n5_ n6_ ⊢
  have BK189 := n0_
  have BK190 := n1_
  have BK191 := n2_
  have BK192 := n3_
  have BK193 := n4_
  have BK194 := n5_
  have HB := n6_
  clear n0_ n1_ n2_ n3_ n4_ n5_ n6_
  have n0_ := Aside0.mk (blk_drew BK189.out)
  have n1_ := Aside0.mk (blk_drew BK190.out)
  have n2_ := Aside0.mk (blk_drew BK191.out)
  have n3_ := Aside0.mk (blk_drew BK192.out)
  have n4_ := Aside0.mk (blk_drew BK193.out)
  have n5_ := Aside0.mk (blk_drew BK194.out)
  have n6_ := Aside0.mk (below_drew1 HB.out)
  clear BK189
  clear BK190
  clear BK191
  clear BK192
  clear BK193
  clear BK194
  clear HB
  have BK189 := n0_
  have BK190 := n1_
  have BK191 := n2_
  have BK192 := n3_
  have BK193 := n4_
  have BK194 := n5_
  have HB := n6_
  clear n0_ n1_ n2_ n3_ n4_ n5_ n6_
  refine start_ (n := 11) (S := fun w' => w'.cell? ⟨gb194, 0, none⟩ = some (.int .i64 t195) ∧ w'.cell? ⟨gb194, 1, none⟩ = some (.int .i64 (wrap64 (Int.tdiv (wrap64 (a2_1 * t195)) 10000))) ∧ w'.cell? ⟨gb194, 2, none⟩ = some (.int .i64 0) ∧ w'.cell? ⟨gb194, 3, none⟩ = some (.int .i64 0) ∧ w'.cell? ⟨gb194, 4, none⟩ = some (.int .i64 0) ∧ w'.cell? ⟨gb194, 5, none⟩ = some (.int .i64 0) ∧ w'.cell? ⟨gb190, 0, none⟩ = some (.int .i64 a1_0) ∧ w'.cell? ⟨gb190, 1, none⟩ = some (.slice A1_1 l1_1.length c1_1)) (ds := [10]) #[false, false, false, false, false, false, false, false, false, false, false] (by kernel_rfl) rfl rfl ⟨(blk_cell BK194.out 0).trans rfl, (blk_cell BK194.out 1).trans rfl, (blk_cell BK194.out 2).trans rfl, (blk_cell BK194.out 3).trans rfl, (blk_cell BK194.out 4).trans rfl, (blk_cell BK194.out 5).trans rfl, (blk_cell BK190.out 0).trans rfl, (blk_cell BK190.out 1).trans rfl⟩ (fun hHeld => ?_); refine with_tabW gasworksref13_year.tab5 gasworksref13_year.bits5 (fun HT_ HW_ => ?_)
  generalize w36.drew = w37 at BK189 BK190 BK191 BK192 BK193 BK194 HB hHeld ⊢
  refine pure_ (i := 0) (N := some 32) (v := ?_) (a' := ?_) #[true, false, false, false, false, false, false, false, false, false, false] rfl rfl (any_of HT_.out (by kernel_rfl)) (fun _ _ _ h => h) (Or.inl ⟨by rfl, ?_⟩) ?_ ?_
  rotate_left
  · intro w'
    go_simp
    with_reducible rfl
  rotate_left
  · simp only [Act.put, List.setIfInBounds_toArray, List.set_cons_zero, List.set_cons_succ, i64_w, i32_w]
    rfl
  refine pure_ (i := 2) (N := some 34) (v := ?_) (a' := ?_) #[true, false, true, false, false, false, false, false, false, false, false] rfl rfl (any_of HT_.out (by kernel_rfl)) (fun _ _ _ h => h) (Or.inl ⟨by rfl, ?_⟩) ?_ ?_
  rotate_left
  · intro w'
    go_simp
    with_reducible rfl
  rotate_left
  · simp only [Act.put, List.setIfInBounds_toArray, List.set_cons_zero, List.set_cons_succ, i64_w, i32_w]
    rfl
  refine pure_ (i := 6) (N := some 38) (v := ?_) (a' := ?_) #[true, false, true, false, false, false, true, false, false, false, false] rfl rfl (any_of HT_.out (by kernel_rfl)) (fun _ _ _ h => h) (Or.inl ⟨by rfl, ?_⟩) ?_ ?_
  rotate_left
  · intro w'
    go_simp
    with_reducible rfl
  rotate_left
  · simp only [Act.put, List.setIfInBounds_toArray, List.set_cons_zero, List.set_cons_succ, i64_w, i32_w]
    rfl
  refine take_ (i := 1) (N := some 33) (v := ?_) (a' := ?_) #[true, true, true, false, false, false, true, false, false, false, false] rfl rfl (take_ofW HT_.out HW_.out (by kernel_rfl)) (fun _ _ _ h => h) (Or.inl ⟨by rfl, ?_⟩) hHeld ?_ ?_
  rotate_left
  · rintro w' ⟨s0, s1, s2, s3, s4, s5, s6, s7⟩
    go_simp
    with_reducible rfl
  rotate_left
  · simp only [Act.put, List.setIfInBounds_toArray, List.set_cons_zero, List.set_cons_succ, i64_w, i32_w]
    rfl
  refine take_ (i := 3) (N := some 35) (v := ?_) (a' := ?_) #[true, true, true, true, false, false, true, false, false, false, false] rfl rfl (take_ofW HT_.out HW_.out (by kernel_rfl)) (fun _ _ _ h => h) (Or.inl ⟨by rfl, ?_⟩) hHeld ?_ ?_
  rotate_left
  · rintro w' ⟨s0, s1, s2, s3, s4, s5, s6, s7⟩
    go_simp
    with_reducible rfl
  rotate_left
  · simp only [Act.put, List.setIfInBounds_toArray, List.set_cons_zero, List.set_cons_succ, i64_w, i32_w]
    rfl
  refine one_ (i := 4) (N := some 36) #[true, true, true, true, true, false, true, false, false, false, false] rfl rfl (one_of HT_.out (by kernel_rfl)) (by decide) (fun K hK => ?_)
  refine goes_ Try.func38 (by kernel_rfl) rfl #[.slice A1_1 l1_1.length c1_1] (by rfl) rfl rfl (by (try simp only [List.map_toArray, List.map_cons, List.map_nil]); first | done | rfl | (simp only [List.length_drop, List.length_take]; rfl)) ?_
  with_reducible refine (gasworksref13_sum.calls k _ _ l1_1 t196 _ ?side1 ?side2 A5.out).mono ?_
  (case side1 => repeat (first | exact (Kd.C_below HR1_1.out HB.out) | (with_reducible refine Kd.C_alloc ?_ _) | (with_reducible refine Kd.C_drewN ?_ _) | (with_reducible refine Kd.C_drew ?_)))
  (case side2 => exact HC1_1.out)
  rintro e w' ⟨rfl, ⟨nd, rfl⟩⟩
  refine ⟨_, rfl, ?_⟩
  refine hK.out _ _ ⟨(blk_cell BK194.out 0).trans rfl, (blk_cell BK194.out 1).trans rfl, (blk_cell BK194.out 2).trans rfl, (blk_cell BK194.out 3).trans rfl, (blk_cell BK194.out 4).trans rfl, (blk_cell BK194.out 5).trans rfl, (blk_cell BK190.out 0).trans rfl, (blk_cell BK190.out 1).trans rfl⟩ (fun hHeld => ?_)
  clear hK K
  refine norm_ (a' := ?_) ?_ ?_
  rotate_left
  · show Act.put _ (some 36) _ = _
    simp only [Act.put, List.setIfInBounds_toArray, List.set_cons_zero, List.set_cons_succ, i64_w, i32_w]
    rfl
  refine pure_ (i := 5) (N := some 37) (v := ?_) (a' := ?_) #[true, true, true, true, true, true, true, false, false, false, false] rfl rfl (any_of HT_.out (by kernel_rfl)) (fun _ _ _ h => h) (Or.inl ⟨by rfl, ?_⟩) ?_ ?_
  rotate_left
  · intro w'
    go_simp
    with_reducible rfl
  rotate_left
  · simp only [Act.put, List.setIfInBounds_toArray, List.set_cons_zero, List.set_cons_succ, i64_w, i32_w]
    rfl
  refine pure_ (i := 7) (N := some 39) (v := ?_) (a' := ?_) #[true, true, true, true, true, true, true, true, false, false, false] rfl rfl (any_of HT_.out (by kernel_rfl)) (fun _ _ _ h => h) (Or.inl ⟨by rfl, ?_⟩) ?_ ?_
  rotate_left
  · intro w'
    go_simp
    with_reducible rfl
  rotate_left
  · simp only [Act.put, List.setIfInBounds_toArray, List.set_cons_zero, List.set_cons_succ, i64_w, i32_w]
    rfl
  refine pure_ (i := 8) (N := some 40) (v := ?_) (a' := ?_) #[true, true, true, true, true, true, true, true, true, false, false] rfl rfl (any_of HT_.out (by kernel_rfl)) (fun _ _ _ h => h) (Or.inl ⟨by rfl, ?_⟩) ?_ ?_
  rotate_left
  · intro w'
    go_simp
    with_reducible rfl
  rotate_left
  · simp only [Act.put, List.setIfInBounds_toArray, List.set_cons_zero, List.set_cons_succ, i64_w, i32_w]
    rfl
  refine pure_ (i := 9) (N := some 41) (v := ?_) (a' := ?_) #[true, true, true, true, true, true, true, true, true, true, false] rfl rfl (any_of HT_.out (by kernel_rfl)) (fun _ _ _ h => h) (Or.inl ⟨by rfl, ?_⟩) ?_ ?_
  rotate_left
  · intro w'
    go_simp
    with_reducible rfl
  rotate_left
  · simp only [Act.put, List.setIfInBounds_toArray, List.set_cons_zero, List.set_cons_succ, i64_w, i32_w]
    rfl
  refine last_ (i := 10) (N := none) #[true, true, true, true, true, true, true, true, true, true, true] rfl rfl (one_of HT_.out (by kernel_rfl)) (by decide) (fun K hK => ?_)
  have hs38 : w37.cell? ⟨gb194, 2, none⟩ = some (.int .i64 0) := (blk_cell BK194.out 2).trans rfl
  have hfs38 := blk_frozen BK194.out 2
  have hns38_0 := NB189_194.out
  have hns38_1 := NB190_194.out
  have hns38_2 := NB191_194.out
  have hns38_3 := NB192_194.out
  have hns38_4 := NB193_194.out
  have hms38_0 := NB194_189.out
  have hms38_1 := NB194_190.out
  have hms38_2 := NB194_191.out
  have hms38_3 := NB194_192.out
  have hms38_4 := NB194_193.out
  refine skip_ (w1 := ?_) (by rfl) rfl ?_ ?_
  rotate_left
  · go_simp
    rfl
  refine hK.out _ _ ?_
  clear hK K
  refine done_ (done_of HT_.out (by kernel_rfl)) ?_
  have hcz39_0 : w37.cell? ⟨gb194, 0, none⟩ = some (.int .i64 t195) := (blk_cell BK194.out 0).trans rfl
  have hcz39_1 : w37.cell? ⟨gb194, 1, none⟩ = some (.int .i64 (wrap64 (Int.tdiv (wrap64 (a2_1 * t195)) 10000))) := (blk_cell BK194.out 1).trans rfl
  have hcz39_2 : w37.cell? ⟨gb194, 2, none⟩ = some (.int .i64 0) := (blk_cell BK194.out 2).trans rfl
  have hcz39_3 : w37.cell? ⟨gb194, 3, none⟩ = some (.int .i64 0) := (blk_cell BK194.out 3).trans rfl
  have hcz39_4 : w37.cell? ⟨gb194, 4, none⟩ = some (.int .i64 0) := (blk_cell BK194.out 4).trans rfl
  have hcz39_5 : w37.cell? ⟨gb194, 5, none⟩ = some (.int .i64 0) := (blk_cell BK194.out 5).trans rfl
  have hfz39_0 := blk_frozen BK194.out 0
  have hfz39_1 := blk_frozen BK194.out 1
  have hfz39_2 := blk_frozen BK194.out 2
  have hfz39_3 := blk_frozen BK194.out 3
  have hfz39_4 := blk_frozen BK194.out 4
  have hfz39_5 := blk_frozen BK194.out 5
  try go_wp2
  go_loopg [10, 12, 13] k (fun kq v10 v12 v13 w' => ∃ (x10_1 : Int) (x12_1 : List Int) (x13_1 : Int), v10 = .int .i64 x10_1 ∧ v13 = .int .i64 x13_1 ∧ Aside0 (gasworksref13_year.l0 kq (wrap64 ((wrap64 (a1_0 + a2_2)) - (ji7))) x10_1 (wrap64 ((wrap64 (Int.tdiv (wrap64 (a2_1 * t195)) 10000)) - (ji8))) x12_1 x13_1 a0_0 a0_1 a0_2 a0_3 a0_4 a0_5 a1_0 l1_1 t195 (wrap64 (Int.tdiv (wrap64 (a2_1 * t195)) 10000)) ji7 0 0 0 = some (r1, r2, r3, r4, r5, r6, r7, r8)) ∧ Aside0 (kq ≤ k) ∧ Aside0 (Kd.Q (Kd.int .i64) 3 w' w.heap.size (fun _ => True) v12 x12_1) ∧ Aside0 (w'.heap[gb189]? = some (.cells #[.int .i64 a0_0, .int .i64 a0_1, .int .i64 a0_2, .int .i64 a0_3, .int .i64 a0_4, .int .i64 a0_5] 23 (0, 0))) ∧ Aside0 (w'.heap[gb190]? = some (.cells #[.int .i64 a1_0, (.slice A1_1 l1_1.length c1_1)] 72 (0, 0))) ∧ Aside0 (w'.heap[gb191]? = some (.cells #[.int .i64 a2_0, .int .i64 a2_1, .int .i64 a2_2] 47 (0, 0))) ∧ Aside0 (w'.heap[gb192]? = some (.cells #[.int .i64 0, .int .i64 0, .int .i64 0, .int .i64 0, .int .i64 0, .int .i64 0] 45 (0, 0))) ∧ Aside0 (w'.heap[gb193]? = some (.cells #[.int .i64 0, (.slice none 0 0)] 72 (0, 0))) ∧ Aside0 (w'.heap[gb194]? = some (.cells #[.int .i64 t195, .int .i64 (wrap64 (Int.tdiv (wrap64 (a2_1 * t195)) 10000)), .int .i64 ji7, .int .i64 0, .int .i64 0, .int .i64 0] 45 (0, 0))) ∧ Aside0 (Below w.heap.size w w'))
  case atStart => exact ⟨(wrap64 ((ji7) - (ji8))), (([] : List Int)), (0), (by first | rfl | (simp; done) | (simp only [← hji7, ← hji8] <;> (first | rfl | simp)) | (simp [*]; done)), (by first | rfl | (simp; done) | (simp [*]; done)), H', ⟨Nat.le_refl _⟩, ⟨Kd.Q_of_R (by first | exact Kd.R_nil _ _ _ _ _ | exact Kd.N_nil _ _ _ _ _ | exact Kd.V_nil _ _ _ _ _ | exact Kd.Q_nil _ _ _ _ _ | exact Kd.S_nil _ _ _ _ _)⟩, ⟨by (with_reducible repeat (first | refine blk_drewN ?_ _ | refine blk_drew ?_ | refine blk_alloc ?_ _)); refine blk_far ?_ NB189_194.out _; (with_reducible repeat (first | refine blk_drewN ?_ _ | refine blk_drew ?_ | refine blk_alloc ?_ _)); exact BK189.out⟩, ⟨by (with_reducible repeat (first | refine blk_drewN ?_ _ | refine blk_drew ?_ | refine blk_alloc ?_ _)); refine blk_far ?_ NB190_194.out _; (with_reducible repeat (first | refine blk_drewN ?_ _ | refine blk_drew ?_ | refine blk_alloc ?_ _)); exact BK190.out⟩, ⟨by (with_reducible repeat (first | refine blk_drewN ?_ _ | refine blk_drew ?_ | refine blk_alloc ?_ _)); refine blk_far ?_ NB191_194.out _; (with_reducible repeat (first | refine blk_drewN ?_ _ | refine blk_drew ?_ | refine blk_alloc ?_ _)); exact BK191.out⟩, ⟨by (with_reducible repeat (first | refine blk_drewN ?_ _ | refine blk_drew ?_ | refine blk_alloc ?_ _)); refine blk_far ?_ NB192_194.out _; (with_reducible repeat (first | refine blk_drewN ?_ _ | refine blk_drew ?_ | refine blk_alloc ?_ _)); exact BK192.out⟩, ⟨by (with_reducible repeat (first | refine blk_drewN ?_ _ | refine blk_drew ?_ | refine blk_alloc ?_ _)); refine blk_far ?_ NB193_194.out _; (with_reducible repeat (first | refine blk_drewN ?_ _ | refine blk_drew ?_ | refine blk_alloc ?_ _)); exact BK193.out⟩, ⟨by (with_reducible repeat (first | refine blk_drewN ?_ _ | refine blk_drew ?_ | refine blk_alloc ?_ _)); refine blk_put (cs := #[.int .i64 t195, .int .i64 (wrap64 (Int.tdiv (wrap64 (a2_1 * t195)) 10000)), .int .i64 0, .int .i64 0, .int .i64 0, .int .i64 0]) ?_ 2 _ rfl; (with_reducible repeat (first | refine blk_drewN ?_ _ | refine blk_drew ?_ | refine blk_alloc ?_ _)); exact BK194.out⟩, ⟨by repeat (first | (with_reducible first | exact HB.out | apply below_alloc | apply pw_below_drewN | apply below_drew1 | refine below_set ?_ GE189.out | refine below_set ?_ GE190.out | refine below_set ?_ GE191.out | refine below_set ?_ GE192.out | refine below_set ?_ GE193.out | refine below_set ?_ GE194.out) | exact HB.out)⟩⟩
  case round =>
    clear H'
    try clear c1
    try clear c2
    try clear p2
    try clear c3
    try clear p6
    try clear c9
    try clear c9b0
    try clear c16
    try clear c17
    try clear c18
    try clear c19
    try clear c20
    try clear c22
    try clear c23
    try clear c24
    try clear c25
    try clear c28
    try clear c29
    try clear c30
    try clear c33
    try clear c34
    try clear c35
    try clear c38
    try clear hcz21_0
    try clear hcz21_1
    try clear hcz21_2
    try clear hcz21_3
    try clear hcz21_4
    try clear hcz21_5
    try clear hcz26_0
    try clear hcz26_1
    try clear hcz26_2
    try clear hcz31_0
    try clear hcz31_1
    try clear hcz31_2
    try clear hcz31_3
    try clear hcz31_4
    try clear hcz31_5
    try clear hcz32_0
    try clear hcz32_1
    try clear hcz32_2
    try clear hcz35_0
    try clear hcz35_1
    try clear hcz39_0
    try clear hcz39_1
    try clear hcz39_2
    try clear hcz39_3
    try clear hcz39_4
    try clear hcz39_5
    try clear hfz21_0
    try clear hfz21_1
    try clear hfz21_2
    try clear hfz21_3
    try clear hfz21_4
    try clear hfz21_5
    try clear hfz26_0
    try clear hfz26_1
    try clear hfz26_2
    try clear hfz31_0
    try clear hfz31_1
    try clear hfz31_2
    try clear hfz31_3
    try clear hfz31_4
    try clear hfz31_5
    try clear hfz32_0
    try clear hfz32_1
    try clear hfz32_2
    try clear hfz35_0
    try clear hfz35_1
    try clear hfz39_0
    try clear hfz39_1
    try clear hfz39_2
    try clear hfz39_3
    try clear hfz39_4
    try clear hfz39_5
    obtain ⟨x10_1, x12_1, x13_1, rfl, rfl, HA, HK1, HO_12, BK189, BK190, BK191, BK192, BK193, BK194, HB⟩ := hrel
    cases gk with
    | zero => exact absurd HA.out (by simp [gasworksref13_year.l0])
    | succ k1 =>
      have H := HA.out
      clear HA
      simp only [gasworksref13_year.l0] at H
      by_cases c40 : x13_1 < (l1_1.length : Int)
      · rw [if_pos c40] at H
        have c40b0 : decide (x13_1 < (l1_1.length : Int)) = true := decide_eq_true c40
        clear c40
        by_cases c41 : 0 ≤ x13_1
        · rw [if_pos c41] at H
          have c41b0 : decide (0 ≤ x13_1) = true := decide_eq_true c41
          clear c41
          obtain ⟨ji42, hji42⟩ : ∃ j_ : Int, (mn x10_1 (rd l1_1 x13_1)) = j_ := ⟨_, rfl⟩
          replace H : (if x12_1.length < 17592186044416 then (gasworksref13_year.l0 k1 (wrap64 ((wrap64 (a1_0 + a2_2)) - (ji7))) (wrap64 (x10_1 - (ji42))) (wrap64 ((wrap64 (Int.tdiv (wrap64 (a2_1 * t195)) 10000)) - (ji8))) (x12_1 ++ [wrap64 ((rd l1_1 x13_1) - (ji42))]) (wrap64 (x13_1 + 1)) a0_0 a0_1 a0_2 a0_3 a0_4 a0_5 a1_0 l1_1 t195 (wrap64 (Int.tdiv (wrap64 (a2_1 * t195)) 10000)) ji7 0 0 0) else (none)) = some (r1, r2, r3, r4, r5, r6, r7, r8) := by first | (rw [hji42] at H; exact H) | (simp only [hji42] at H ⊢; exact H)
          have hji42_ : (if (rd l1_1 x13_1) < x10_1 then (rd l1_1 x13_1) else x10_1) = ji42 := hji42
          by_cases c43 : x12_1.length < 17592186044416
          · rw [if_pos c43] at H
            have LMc43 := Aside0.mk c43
            clear c43
            obtain ⟨y199, hy199⟩ : ∃ y_ : List Int, y_ = (x12_1 ++ [wrap64 ((rd l1_1 x13_1) - (ji42))]) := ⟨_, rfl⟩
            replace H : (gasworksref13_year.l0 k1 (wrap64 ((wrap64 (a1_0 + a2_2)) - (ji7))) (wrap64 (x10_1 - (ji42))) (wrap64 ((wrap64 (Int.tdiv (wrap64 (a2_1 * t195)) 10000)) - (ji8))) y199 (wrap64 (x13_1 + 1)) a0_0 a0_1 a0_2 a0_3 a0_4 a0_5 a1_0 l1_1 t195 (wrap64 (Int.tdiv (wrap64 (a2_1 * t195)) 10000)) ji7 0 0 0) = some (r1, r2, r3, r4, r5, r6, r7, r8) := by first | (rw [hy199]; with_reducible exact H) | (have H2_ := (Option.bind_some _ _).symm.trans H; rw [hy199]; with_reducible exact H2_) | (have H2_ := (Option.bind_some _ _).symm.trans H; with_reducible exact H2_) | with_reducible exact H | (rw [hy199]; exact H) | exact H
            have Ny199 := Aside0.mk hy199
            clear hy199
            have H' := Aside0.mk H
            clear H
            have hnb44 := NB190_189.out
            have hnc44 := NB189_190.out
            have hnb45 := NB190_191.out
            have hnc45 := NB191_190.out
            have hnb46 := NB190_192.out
            have hnc46 := NB192_190.out
            have hnb47 := NB190_193.out
            have hnc47 := NB193_190.out
            have hnb48 := NB190_194.out
            have hnc48 := NB194_190.out
            have hcz49_0 : wr.cell? ⟨gb190, 0, none⟩ = some (.int .i64 a1_0) := (blk_cell BK190.out 0).trans rfl
            have hcz49_1 : wr.cell? ⟨gb190, 1, none⟩ = some (.slice A1_1 l1_1.length c1_1) := (blk_cell BK190.out 1).trans rfl
            have hfz49_0 := blk_frozen BK190.out 0
            have hfz49_1 := blk_frozen BK190.out 1
            have p197 : 0 ≤ (x13_1 : Int) := of_decide_eq_true (by first | (with_reducible assumption) | assumption)
            have q197 : x13_1 < (l1_1.length : Int) := of_decide_eq_true (by first | (with_reducible assumption) | assumption)
            obtain ⟨ad197, e197, hx197_0⟩ := Kd.at_int HR1_1.out x13_1 p197 q197
            cases e197
            replace hx197_0 := (HB.out.cell (World.block_lt_of_cell? w _ hx197_0)).trans hx197_0
            replace p197 := eq_true p197
            replace q197 := eq_true q197
            have p198 : 0 ≤ (x13_1 : Int) := of_decide_eq_true (by first | (with_reducible assumption) | assumption)
            have q198 : x13_1 < (l1_1.length : Int) := of_decide_eq_true (by first | (with_reducible assumption) | assumption)
            obtain ⟨ad198, e198, hx198_0⟩ := Kd.at_int HR1_1.out x13_1 p198 q198
            obtain rfl : ad197 = ad198 := (by injection e198)
            replace hx198_0 := (HB.out.cell (World.block_lt_of_cell? w _ hx198_0)).trans hx198_0
            replace p198 := eq_true p198
            replace q198 := eq_true q198
            go_wp2_with (first | ((with_reducible refine gate_builtin (b := .append) (xs := #[.tmp 78, .tmp 86]) rfl ?_); at_builtin; refine Kd.Q_append (Kd.int .i64) (w0 := w) w.heap.size rfl (.tmp 78) (.tmp 86) 65 3 (.int .i64 0) 8 rfl Try.underlying65 info3 rfl (by decide) (by omega) u12 x12_1 (wrap64 ((rd l1_1 x13_1) - (ji42))) [.int .i64 (wrap64 ((rd l1_1 x13_1) - (ji42)))] (fun _ => True) (fun _ => False) rfl rfl ?aP (fun _ hk => hk.elim) ?aF ?aO ?aB ?aS ?aL ?_; (case aP => exact rfl); (case aB => exact (by repeat (first | (with_reducible first | exact HB.out | apply below_alloc | apply pw_below_drewN | apply below_drew1 | refine below_set ?_ GE189.out | refine below_set ?_ GE190.out | refine below_set ?_ GE191.out | refine below_set ?_ GE192.out | refine below_set ?_ GE193.out | refine below_set ?_ GE194.out) | exact HB.out))); (case aF => exact (fun _ _ => trivial)); (case aO => exact (by (with_reducible repeat (first | apply Kd.Q_alloc | apply Kd.Q_drewN | apply Kd.Q_drew)); exact HO_12.out)); (case aS => exact (below_size (by repeat (first | (with_reducible first | exact HB.out | apply below_alloc | apply pw_below_drewN | apply below_drew1 | refine below_set ?_ GE189.out | refine below_set ?_ GE190.out | refine below_set ?_ GE191.out | refine below_set ?_ GE192.out | refine below_set ?_ GE193.out | refine below_set ?_ GE194.out) | exact HB.out)))); (case aL => have := LMc43.out; omega); intro v200 w50 ho hb hg hat; rw [← Ny199.out] at ho; have n0_ := Aside0.mk (blk_grown (g := gb189) (o := .cells #[.int .i64 a0_0, .int .i64 a0_1, .int .i64 a0_2, .int .i64 a0_3, .int .i64 a0_4, .int .i64 a0_5] 23 (0, 0)) (by (with_reducible repeat (first | refine blk_drewN ?_ _ | refine blk_drew ?_ | refine blk_alloc ?_ _)); exact BK189.out) hg (Kd.Q_ne HO_12.out BK189.out (by decide))); have n1_ := Aside0.mk (blk_grown (g := gb190) (o := .cells #[.int .i64 a1_0, .slice (some ad197) l1_1.length c1_1] 72 (0, 0)) (by (with_reducible repeat (first | refine blk_drewN ?_ _ | refine blk_drew ?_ | refine blk_alloc ?_ _)); exact BK190.out) hg (Kd.Q_ne HO_12.out BK190.out (by decide))); have n2_ := Aside0.mk (blk_grown (g := gb191) (o := .cells #[.int .i64 a2_0, .int .i64 a2_1, .int .i64 a2_2] 47 (0, 0)) (by (with_reducible repeat (first | refine blk_drewN ?_ _ | refine blk_drew ?_ | refine blk_alloc ?_ _)); exact BK191.out) hg (Kd.Q_ne HO_12.out BK191.out (by decide))); have n3_ := Aside0.mk (blk_grown (g := gb192) (o := .cells #[.int .i64 0, .int .i64 0, .int .i64 0, .int .i64 0, .int .i64 0, .int .i64 0] 45 (0, 0)) (by (with_reducible repeat (first | refine blk_drewN ?_ _ | refine blk_drew ?_ | refine blk_alloc ?_ _)); exact BK192.out) hg (Kd.Q_ne HO_12.out BK192.out (by decide))); have n4_ := Aside0.mk (blk_grown (g := gb193) (o := .cells #[.int .i64 0, .slice none 0 0] 72 (0, 0)) (by (with_reducible repeat (first | refine blk_drewN ?_ _ | refine blk_drew ?_ | refine blk_alloc ?_ _)); exact BK193.out) hg (Kd.Q_ne HO_12.out BK193.out (by decide))); have n5_ := Aside0.mk (blk_grown (g := gb194) (o := .cells #[.int .i64 t195, .int .i64 (wrap64 (Int.tdiv (wrap64 (a2_1 * t195)) 10000)), .int .i64 ji7, .int .i64 0, .int .i64 0, .int .i64 0] 45 (0, 0)) (by (with_reducible repeat (first | refine blk_drewN ?_ _ | refine blk_drew ?_ | refine blk_alloc ?_ _)); exact BK194.out) hg (Kd.Q_ne HO_12.out BK194.out (by decide))); have n6_ := Aside0.mk (hb); have n7_ := Aside0.mk (ho); clear BK189; clear BK190; clear BK191; clear BK192; clear BK193; clear BK194; clear HB; clear HO_12; have BK189 := n0_; have BK190 := n1_; have BK191 := n2_; have BK192 := n3_; have BK193 := n4_; have BK194 := n5_; have HB := n6_; have HO201 := n7_; clear n0_ n1_ n2_ n3_ n4_ n5_ n6_ n7_; clear ho hb hg hat))
            go_roundg k1
            case measure => have := HK1.out; omega
            case rel => exact ⟨(wrap64 (x10_1 - (ji42))), (y199), (wrap64 (x13_1 + 1)), (by first | rfl | (simp; done) | (simp only [← hji42] <;> (first | rfl | simp)) | (simp [*]; done)), (by first | rfl | (simp; done) | (simp [*]; done)), H', ⟨by have := HK1.out; omega⟩, ⟨by (with_reducible repeat (first | apply Kd.Q_alloc | apply Kd.Q_drewN | apply Kd.Q_drew)); exact HO201.out⟩, ⟨by (with_reducible repeat (first | refine blk_drewN ?_ _ | refine blk_drew ?_ | refine blk_alloc ?_ _)); exact BK189.out⟩, ⟨by (with_reducible repeat (first | refine blk_drewN ?_ _ | refine blk_drew ?_ | refine blk_alloc ?_ _)); exact BK190.out⟩, ⟨by (with_reducible repeat (first | refine blk_drewN ?_ _ | refine blk_drew ?_ | refine blk_alloc ?_ _)); exact BK191.out⟩, ⟨by (with_reducible repeat (first | refine blk_drewN ?_ _ | refine blk_drew ?_ | refine blk_alloc ?_ _)); exact BK192.out⟩, ⟨by (with_reducible repeat (first | refine blk_drewN ?_ _ | refine blk_drew ?_ | refine blk_alloc ?_ _)); exact BK193.out⟩, ⟨by (with_reducible repeat (first | refine blk_drewN ?_ _ | refine blk_drew ?_ | refine blk_alloc ?_ _)); exact BK194.out⟩, ⟨by repeat (first | (with_reducible first | exact HB.out | apply below_alloc | apply pw_below_drewN | apply below_drew1 | refine below_set ?_ GE189.out | refine below_set ?_ GE190.out | refine below_set ?_ GE191.out | refine below_set ?_ GE192.out | refine below_set ?_ GE193.out | refine below_set ?_ GE194.out) | exact HB.out)⟩⟩
          · rw [if_neg c43] at H
            exact absurd H (by simp)
        · rw [if_neg c41] at H
          exact absurd H (by simp)
      · rw [if_neg c40] at H
        have c40b0 : decide (x13_1 < (l1_1.length : Int)) = false := decide_eq_false c40
        clear c40
        by_cases c51 : x12_1.length < 17592186044416
        · rw [if_pos c51] at H
          have LMc51 := Aside0.mk c51
          clear c51
          obtain ⟨y202, hy202⟩ : ∃ y_ : List Int, y_ = (x12_1 ++ [(wrap64 ((wrap64 (Int.tdiv (wrap64 (a2_1 * t195)) 10000)) - (ji8)))]) := ⟨_, rfl⟩
          replace H : (gasworksref13_year.l1 k1 (wrap64 ((wrap64 (a1_0 + a2_2)) - (ji7))) y202 a0_0 a0_1 a0_2 a0_3 a0_4 a0_5 t195 (wrap64 (Int.tdiv (wrap64 (a2_1 * t195)) 10000)) ji7 0 0 0) = some (r1, r2, r3, r4, r5, r6, r7, r8) := by first | (rw [hy202]; with_reducible exact H) | (have H2_ := (Option.bind_some _ _).symm.trans H; rw [hy202]; with_reducible exact H2_) | (have H2_ := (Option.bind_some _ _).symm.trans H; with_reducible exact H2_) | with_reducible exact H | (rw [hy202]; exact H) | exact H
          have Ny202 := Aside0.mk hy202
          clear hy202
          have H' := Aside0.mk H
          clear H
          have hnb52 := NB190_189.out
          have hnc52 := NB189_190.out
          have hnb53 := NB190_191.out
          have hnc53 := NB191_190.out
          have hnb54 := NB190_192.out
          have hnc54 := NB192_190.out
          have hnb55 := NB190_193.out
          have hnc55 := NB193_190.out
          have hnb56 := NB190_194.out
          have hnc56 := NB194_190.out
          have hcz57_0 : wr.cell? ⟨gb190, 0, none⟩ = some (.int .i64 a1_0) := (blk_cell BK190.out 0).trans rfl
          have hcz57_1 : wr.cell? ⟨gb190, 1, none⟩ = some (.slice A1_1 l1_1.length c1_1) := (blk_cell BK190.out 1).trans rfl
          have hfz57_0 := blk_frozen BK190.out 0
          have hfz57_1 := blk_frozen BK190.out 1
          go_wp2_with (first | ((with_reducible refine gate_builtin (b := .append) (xs := #[.tmp 88, .tmp 90]) rfl ?_); at_builtin; refine Kd.Q_append (Kd.int .i64) (w0 := w) w.heap.size rfl (.tmp 88) (.tmp 90) 65 3 (.int .i64 0) 8 rfl Try.underlying65 info3 rfl (by decide) (by omega) u12 x12_1 (wrap64 ((wrap64 (Int.tdiv (wrap64 (a2_1 * t195)) 10000)) - (ji8))) [.int .i64 (wrap64 ((wrap64 (Int.tdiv (wrap64 (a2_1 * t195)) 10000)) - (ji8)))] (fun _ => True) (fun _ => False) rfl rfl ?aP (fun _ hk => hk.elim) ?aF ?aO ?aB ?aS ?aL ?_; (case aP => exact rfl); (case aB => exact (by repeat (first | (with_reducible first | exact HB.out | apply below_alloc | apply pw_below_drewN | apply below_drew1 | refine below_set ?_ GE189.out | refine below_set ?_ GE190.out | refine below_set ?_ GE191.out | refine below_set ?_ GE192.out | refine below_set ?_ GE193.out | refine below_set ?_ GE194.out) | exact HB.out))); (case aF => exact (fun _ _ => trivial)); (case aO => exact (by (with_reducible repeat (first | apply Kd.Q_alloc | apply Kd.Q_drewN | apply Kd.Q_drew)); exact HO_12.out)); (case aS => exact (below_size (by repeat (first | (with_reducible first | exact HB.out | apply below_alloc | apply pw_below_drewN | apply below_drew1 | refine below_set ?_ GE189.out | refine below_set ?_ GE190.out | refine below_set ?_ GE191.out | refine below_set ?_ GE192.out | refine below_set ?_ GE193.out | refine below_set ?_ GE194.out) | exact HB.out)))); (case aL => have := LMc51.out; omega); intro v203 w58 ho hb hg hat; rw [← Ny202.out] at ho; have n0_ := Aside0.mk (blk_grown (g := gb189) (o := .cells #[.int .i64 a0_0, .int .i64 a0_1, .int .i64 a0_2, .int .i64 a0_3, .int .i64 a0_4, .int .i64 a0_5] 23 (0, 0)) (by (with_reducible repeat (first | refine blk_drewN ?_ _ | refine blk_drew ?_ | refine blk_alloc ?_ _)); exact BK189.out) hg (Kd.Q_ne HO_12.out BK189.out (by decide))); have n1_ := Aside0.mk (blk_grown (g := gb190) (o := .cells #[.int .i64 a1_0, .slice A1_1 l1_1.length c1_1] 72 (0, 0)) (by (with_reducible repeat (first | refine blk_drewN ?_ _ | refine blk_drew ?_ | refine blk_alloc ?_ _)); exact BK190.out) hg (Kd.Q_ne HO_12.out BK190.out (by decide))); have n2_ := Aside0.mk (blk_grown (g := gb191) (o := .cells #[.int .i64 a2_0, .int .i64 a2_1, .int .i64 a2_2] 47 (0, 0)) (by (with_reducible repeat (first | refine blk_drewN ?_ _ | refine blk_drew ?_ | refine blk_alloc ?_ _)); exact BK191.out) hg (Kd.Q_ne HO_12.out BK191.out (by decide))); have n3_ := Aside0.mk (blk_grown (g := gb192) (o := .cells #[.int .i64 0, .int .i64 0, .int .i64 0, .int .i64 0, .int .i64 0, .int .i64 0] 45 (0, 0)) (by (with_reducible repeat (first | refine blk_drewN ?_ _ | refine blk_drew ?_ | refine blk_alloc ?_ _)); exact BK192.out) hg (Kd.Q_ne HO_12.out BK192.out (by decide))); have n4_ := Aside0.mk (blk_grown (g := gb193) (o := .cells #[.int .i64 0, .slice none 0 0] 72 (0, 0)) (by (with_reducible repeat (first | refine blk_drewN ?_ _ | refine blk_drew ?_ | refine blk_alloc ?_ _)); exact BK193.out) hg (Kd.Q_ne HO_12.out BK193.out (by decide))); have n5_ := Aside0.mk (blk_grown (g := gb194) (o := .cells #[.int .i64 t195, .int .i64 (wrap64 (Int.tdiv (wrap64 (a2_1 * t195)) 10000)), .int .i64 ji7, .int .i64 0, .int .i64 0, .int .i64 0] 45 (0, 0)) (by (with_reducible repeat (first | refine blk_drewN ?_ _ | refine blk_drew ?_ | refine blk_alloc ?_ _)); exact BK194.out) hg (Kd.Q_ne HO_12.out BK194.out (by decide))); have n6_ := Aside0.mk (hb); have n7_ := Aside0.mk (ho); clear BK189; clear BK190; clear BK191; clear BK192; clear BK193; clear BK194; clear HB; clear HO_12; have BK189 := n0_; have BK190 := n1_; have BK191 := n2_; have BK192 := n3_; have BK193 := n4_; have BK194 := n5_; have HB := n6_; have HO204 := n7_; clear n0_ n1_ n2_ n3_ n4_ n5_ n6_ n7_; clear ho hb hg hat))
          go_loopg [12] k1 (fun kq v12 w' => ∃ (x12_2 : List Int), Aside0 (gasworksref13_year.l1 kq (wrap64 ((wrap64 (a1_0 + a2_2)) - (ji7))) x12_2 a0_0 a0_1 a0_2 a0_3 a0_4 a0_5 t195 (wrap64 (Int.tdiv (wrap64 (a2_1 * t195)) 10000)) ji7 0 0 0 = some (r1, r2, r3, r4, r5, r6, r7, r8)) ∧ Aside0 (kq ≤ k1) ∧ Aside0 (Kd.Q (Kd.int .i64) 3 w' w.heap.size (fun _ => True) v12 x12_2) ∧ Aside0 (w'.heap[gb189]? = some (.cells #[.int .i64 a0_0, .int .i64 a0_1, .int .i64 a0_2, .int .i64 a0_3, .int .i64 a0_4, .int .i64 a0_5] 23 (0, 0))) ∧ Aside0 (w'.heap[gb190]? = some (.cells #[.int .i64 a1_0, (.slice A1_1 l1_1.length c1_1)] 72 (0, 0))) ∧ Aside0 (w'.heap[gb191]? = some (.cells #[.int .i64 a2_0, .int .i64 a2_1, .int .i64 a2_2] 47 (0, 0))) ∧ Aside0 (w'.heap[gb192]? = some (.cells #[.int .i64 0, .int .i64 0, .int .i64 0, .int .i64 0, .int .i64 0, .int .i64 0] 45 (0, 0))) ∧ Aside0 (w'.heap[gb193]? = some (.cells #[.int .i64 0, (.slice none 0 0)] 72 (0, 0))) ∧ Aside0 (w'.heap[gb194]? = some (.cells #[.int .i64 t195, .int .i64 (wrap64 (Int.tdiv (wrap64 (a2_1 * t195)) 10000)), .int .i64 ji7, .int .i64 0, .int .i64 0, .int .i64 0] 45 (0, 0))) ∧ Aside0 (Below w.heap.size w w'))
          case atStart => exact ⟨(y202), H', ⟨Nat.le_refl _⟩, ⟨by (with_reducible repeat (first | apply Kd.Q_alloc | apply Kd.Q_drewN | apply Kd.Q_drew)); exact HO204.out⟩, ⟨by (with_reducible repeat (first | refine blk_drewN ?_ _ | refine blk_drew ?_ | refine blk_alloc ?_ _)); exact BK189.out⟩, ⟨by (with_reducible repeat (first | refine blk_drewN ?_ _ | refine blk_drew ?_ | refine blk_alloc ?_ _)); exact BK190.out⟩, ⟨by (with_reducible repeat (first | refine blk_drewN ?_ _ | refine blk_drew ?_ | refine blk_alloc ?_ _)); exact BK191.out⟩, ⟨by (with_reducible repeat (first | refine blk_drewN ?_ _ | refine blk_drew ?_ | refine blk_alloc ?_ _)); exact BK192.out⟩, ⟨by (with_reducible repeat (first | refine blk_drewN ?_ _ | refine blk_drew ?_ | refine blk_alloc ?_ _)); exact BK193.out⟩, ⟨by (with_reducible repeat (first | refine blk_drewN ?_ _ | refine blk_drew ?_ | refine blk_alloc ?_ _)); exact BK194.out⟩, ⟨by repeat (first | (with_reducible first | exact HB.out | apply below_alloc | apply pw_below_drewN | apply below_drew1 | refine below_set ?_ GE189.out | refine below_set ?_ GE190.out | refine below_set ?_ GE191.out | refine below_set ?_ GE192.out | refine below_set ?_ GE193.out | refine below_set ?_ GE194.out) | exact HB.out)⟩⟩
          case round =>
            clear H'
            try clear c1
            try clear p1
            try clear q1
            try clear hx1
            try clear c2
            try clear p2
            try clear c3
            try clear c4
            try clear c5
            try clear p6
            try clear c9
            try clear c9b0
            try clear c16
            try clear c17
            try clear c18
            try clear c19
            try clear p19
            try clear q19
            try clear hx19
            try clear c20
            try clear c22
            try clear c23
            try clear c24
            try clear c25
            try clear c28
            try clear c29
            try clear c30
            try clear c33
            try clear c34
            try clear c35
            try clear c38
            try clear c40
            try clear c40b0
            try clear c41
            try clear c41b0
            try clear c43
            try clear c44
            try clear c45
            try clear c46
            try clear c47
            try clear c48
            try clear c51
            try clear c52
            try clear c53
            try clear c54
            try clear c55
            try clear c56
            try clear hcz21_0
            try clear hcz21_1
            try clear hcz21_2
            try clear hcz21_3
            try clear hcz21_4
            try clear hcz21_5
            try clear hcz26_0
            try clear hcz26_1
            try clear hcz26_2
            try clear hcz31_0
            try clear hcz31_1
            try clear hcz31_2
            try clear hcz31_3
            try clear hcz31_4
            try clear hcz31_5
            try clear hcz32_0
            try clear hcz32_1
            try clear hcz32_2
            try clear hcz35_0
            try clear hcz35_1
            try clear hcz39_0
            try clear hcz39_1
            try clear hcz39_2
            try clear hcz39_3
            try clear hcz39_4
            try clear hcz39_5
            try clear hcz49_0
            try clear hcz49_1
            try clear hcz57_0
            try clear hcz57_1
            try clear hfz21_0
            try clear hfz21_1
            try clear hfz21_2
            try clear hfz21_3
            try clear hfz21_4
            try clear hfz21_5
            try clear hfz26_0
            try clear hfz26_1
            try clear hfz26_2
            try clear hfz31_0
            try clear hfz31_1
            try clear hfz31_2
            try clear hfz31_3
            try clear hfz31_4
            try clear hfz31_5
            try clear hfz32_0
            try clear hfz32_1
            try clear hfz32_2
            try clear hfz35_0
            try clear hfz35_1
            try clear hfz39_0
            try clear hfz39_1
            try clear hfz39_2
            try clear hfz39_3
            try clear hfz39_4
            try clear hfz39_5
            try clear hfz49_0
            try clear hfz49_1
            try clear hfz57_0
            try clear hfz57_1
            try clear hx197_0
            try clear hx198_0
            try clear p197
            try clear p198
            try clear p2
            try clear p6
            try clear q197
            try clear q198
            obtain ⟨x12_2, HA, HK2, HO_12, BK189, BK190, BK191, BK192, BK193, BK194, HB⟩ := hrel
            cases gk with
            | zero => exact absurd HA.out (by simp [gasworksref13_year.l1])
            | succ k2 =>
              have H := HA.out
              clear HA
              simp only [gasworksref13_year.l1] at H
              by_cases c59 : (x12_2.length : Int) > a0_5
              · rw [if_pos c59] at H
                have c59b0 : decide (a0_5 < (x12_2.length : Int)) = true := decide_eq_true c59
                clear c59
                by_cases c60 : 1 ≤ (x12_2.length : Int)
                · rw [if_pos c60] at H
                  have c60b0 := eq_true c60
                  have c60b1 : decide (1 ≤ (x12_2.length : Int)) = true := decide_eq_true c60
                  clear c60
                  obtain ⟨y205, hy205⟩ : ∃ y_ : List Int, y_ = (x12_2.drop (1 : Int).toNat) := ⟨_, rfl⟩
                  replace H : (gasworksref13_year.l1 k2 (wrap64 ((wrap64 (a1_0 + a2_2)) - (ji7))) y205 a0_0 a0_1 a0_2 a0_3 a0_4 a0_5 t195 (wrap64 (Int.tdiv (wrap64 (a2_1 * t195)) 10000)) ji7 0 0 0) = some (r1, r2, r3, r4, r5, r6, r7, r8) := by first | (rw [hy205]; with_reducible exact H) | (have H2_ := (Option.bind_some _ _).symm.trans H; rw [hy205]; with_reducible exact H2_) | (have H2_ := (Option.bind_some _ _).symm.trans H; with_reducible exact H2_) | with_reducible exact H | (rw [hy205]; exact H) | exact H
                  have Ny205 := Aside0.mk hy205
                  clear hy205
                  have H' := Aside0.mk H
                  clear H
                  obtain ⟨Ao61, co61, eo61, _⟩ := Kd.Q_slice HO_12.out
                  subst eo61
                  have hnb62 := NB189_190.out
                  have hnc62 := NB190_189.out
                  have hnb63 := NB189_191.out
                  have hnc63 := NB191_189.out
                  have hnb64 := NB189_192.out
                  have hnc64 := NB192_189.out
                  have hnb65 := NB189_193.out
                  have hnc65 := NB193_189.out
                  have hnb66 := NB189_194.out
                  have hnc66 := NB194_189.out
                  have hcz67_0 : wr.cell? ⟨gb189, 0, none⟩ = some (.int .i64 a0_0) := (blk_cell BK189.out 0).trans rfl
                  have hcz67_1 : wr.cell? ⟨gb189, 1, none⟩ = some (.int .i64 a0_1) := (blk_cell BK189.out 1).trans rfl
                  have hcz67_2 : wr.cell? ⟨gb189, 2, none⟩ = some (.int .i64 a0_2) := (blk_cell BK189.out 2).trans rfl
                  have hcz67_3 : wr.cell? ⟨gb189, 3, none⟩ = some (.int .i64 a0_3) := (blk_cell BK189.out 3).trans rfl
                  have hcz67_4 : wr.cell? ⟨gb189, 4, none⟩ = some (.int .i64 a0_4) := (blk_cell BK189.out 4).trans rfl
                  have hcz67_5 : wr.cell? ⟨gb189, 5, none⟩ = some (.int .i64 a0_5) := (blk_cell BK189.out 5).trans rfl
                  have hfz67_0 := blk_frozen BK189.out 0
                  have hfz67_1 := blk_frozen BK189.out 1
                  have hfz67_2 := blk_frozen BK189.out 2
                  have hfz67_3 := blk_frozen BK189.out 3
                  have hfz67_4 := blk_frozen BK189.out 4
                  have hfz67_5 := blk_frozen BK189.out 5
                  have q68 : (1 : Int) ≤ ((x12_2.length : Int) : Int) := of_decide_eq_true (by first | (with_reducible assumption) | assumption)
                  obtain ⟨i068, hi068, _, hsz68, _⟩ := info_parts info3
                  have hcut68 := cut_from (P := Try.prog) 65 3 .i64 Try.underlying65 hi068 1 hsz68 Ao61 x12_2.length co61 1 (by omega) q68
                  have hr68 := Kd.Q_drop (k := (1 : Int).toNat) HO_12.out (by omega)
                  obtain ⟨A68, hA68⟩ : ∃ A1, A1 = (if co61 = (1 : Int).toNat then Ao61 else (Ao61 : Option Addr).map (·.add ((1 : Int).toNat * 1))) := ⟨_, rfl⟩
                  obtain ⟨c68, hc68⟩ : ∃ c1, c1 = co61 - (1 : Int).toNat := ⟨_, rfl⟩
                  have hy68 : y205.length = x12_2.length - (1 : Int).toNat := (by rw [Ny205.out, List.length_drop])
                  rw [← Ny205.out] at hr68
                  rw [← hy68, ← hA68, ← hc68] at hcut68
                  replace hr68 : Kd.Q (Kd.int .i64) 3 wr w.heap.size (fun _ => True) (.slice A68 y205.length c68) y205 := (by rw [hA68, hc68, hy68]; exact hr68)
                  have HE68 : Aside0 ((Value.slice A68 y205.length c68).ownBlock = (.slice Ao61 x12_2.length co61 : Value).ownBlock) := ⟨by rw [hA68]; split <;> (cases (Ao61 : Option Addr) <;> rfl)⟩
                  clear hy68 hi068 hsz68 HO_12 hA68 hc68
                  have HO207 := Aside0.mk hr68
                  clear hr68
                  replace q68 := eq_true q68
                  go_wp2
                  go_roundg k2
                  case measure => have := HK1.out; have := HK2.out; omega
                  case rel => exact ⟨(y205), H', ⟨by have := HK1.out; have := HK2.out; omega⟩, ⟨by (with_reducible repeat (first | apply Kd.Q_alloc | apply Kd.Q_drewN | apply Kd.Q_drew)); exact HO207.out⟩, ⟨by (with_reducible repeat (first | refine blk_drewN ?_ _ | refine blk_drew ?_ | refine blk_alloc ?_ _)); exact BK189.out⟩, ⟨by (with_reducible repeat (first | refine blk_drewN ?_ _ | refine blk_drew ?_ | refine blk_alloc ?_ _)); exact BK190.out⟩, ⟨by (with_reducible repeat (first | refine blk_drewN ?_ _ | refine blk_drew ?_ | refine blk_alloc ?_ _)); exact BK191.out⟩, ⟨by (with_reducible repeat (first | refine blk_drewN ?_ _ | refine blk_drew ?_ | refine blk_alloc ?_ _)); exact BK192.out⟩, ⟨by (with_reducible repeat (first | refine blk_drewN ?_ _ | refine blk_drew ?_ | refine blk_alloc ?_ _)); exact BK193.out⟩, ⟨by (with_reducible repeat (first | refine blk_drewN ?_ _ | refine blk_drew ?_ | refine blk_alloc ?_ _)); exact BK194.out⟩, ⟨by repeat (first | (with_reducible first | exact HB.out | apply below_alloc | apply pw_below_drewN | apply below_drew1 | refine below_set ?_ GE189.out | refine below_set ?_ GE190.out | refine below_set ?_ GE191.out | refine below_set ?_ GE192.out | refine below_set ?_ GE193.out | refine below_set ?_ GE194.out) | exact HB.out)⟩⟩
                · rw [if_neg c60] at H
                  exact absurd H (by simp)
              · rw [if_neg c59] at H
                have c59b0 : decide (a0_5 < (x12_2.length : Int)) = false := decide_eq_false c59
                clear c59
                replace H := Option.bind_eq_some_iff.mp H
                obtain ⟨t208, A690, H⟩ := H
                replace H : (some (t195, (wrap64 (Int.tdiv (wrap64 (a2_1 * t195)) 10000)), ji7, t208, wrap64 ((wrap64 ((wrap64 (a1_0 + a2_2)) - (ji7))) - (mx 0 (wrap64 ((wrap64 ((wrap64 (a1_0 + a2_2)) - (ji7))) - a0_4)))), mx 0 (wrap64 ((wrap64 ((wrap64 (a1_0 + a2_2)) - (ji7))) - a0_4)), wrap64 ((wrap64 ((wrap64 (a1_0 + a2_2)) - (ji7))) - (mx 0 (wrap64 ((wrap64 ((wrap64 (a1_0 + a2_2)) - (ji7))) - a0_4)))), x12_2)) = some (r1, r2, r3, r4, r5, r6, r7, r8) := H
                have A69 := Aside0.mk A690
                clear A690
                obtain ⟨ji70, hji70⟩ : ∃ j_ : Int, (mx 0 (wrap64 ((wrap64 ((wrap64 (a1_0 + a2_2)) - (ji7))) - a0_4))) = j_ := ⟨_, rfl⟩
                replace H : (some (t195, (wrap64 (Int.tdiv (wrap64 (a2_1 * t195)) 10000)), ji7, t208, wrap64 ((wrap64 ((wrap64 (a1_0 + a2_2)) - (ji7))) - (ji70)), ji70, wrap64 ((wrap64 ((wrap64 (a1_0 + a2_2)) - (ji7))) - (ji70)), x12_2)) = some (r1, r2, r3, r4, r5, r6, r7, r8) := by first | (rw [hji70] at H; exact H) | (simp only [hji70] at H ⊢; exact H)
                (try rw [hji70] at A69)
                have hji70_ : (if 0 < (wrap64 ((wrap64 ((wrap64 (a1_0 + a2_2)) - (ji7))) - a0_4)) then (wrap64 ((wrap64 ((wrap64 (a1_0 + a2_2)) - (ji7))) - a0_4)) else 0) = ji70 := hji70
                simp only [Option.some.injEq, Prod.mk.injEq] at H
                obtain ⟨rfl, rfl, rfl, rfl, rfl, rfl, rfl, rfl⟩ := H
                obtain ⟨Ao71, co71, eo71, _⟩ := Kd.Q_slice HO_12.out
                subst eo71
                have hnb72 := NB189_190.out
                have hnc72 := NB190_189.out
                have hnb73 := NB189_191.out
                have hnc73 := NB191_189.out
                have hnb74 := NB189_192.out
                have hnc74 := NB192_189.out
                have hnb75 := NB189_193.out
                have hnc75 := NB193_189.out
                have hnb76 := NB189_194.out
                have hnc76 := NB194_189.out
                have hcz77_0 : wr.cell? ⟨gb189, 0, none⟩ = some (.int .i64 a0_0) := (blk_cell BK189.out 0).trans rfl
                have hcz77_1 : wr.cell? ⟨gb189, 1, none⟩ = some (.int .i64 a0_1) := (blk_cell BK189.out 1).trans rfl
                have hcz77_2 : wr.cell? ⟨gb189, 2, none⟩ = some (.int .i64 a0_2) := (blk_cell BK189.out 2).trans rfl
                have hcz77_3 : wr.cell? ⟨gb189, 3, none⟩ = some (.int .i64 a0_3) := (blk_cell BK189.out 3).trans rfl
                have hcz77_4 : wr.cell? ⟨gb189, 4, none⟩ = some (.int .i64 a0_4) := (blk_cell BK189.out 4).trans rfl
                have hcz77_5 : wr.cell? ⟨gb189, 5, none⟩ = some (.int .i64 a0_5) := (blk_cell BK189.out 5).trans rfl
                have hfz77_0 := blk_frozen BK189.out 0
                have hfz77_1 := blk_frozen BK189.out 1
                have hfz77_2 := blk_frozen BK189.out 2
                have hfz77_3 := blk_frozen BK189.out 3
                have hfz77_4 := blk_frozen BK189.out 4
                have hfz77_5 := blk_frozen BK189.out 5
                try go_wp2_with (first | ((with_reducible refine gate_callee (f := 38) rfl ?_); refine goesL_ (some 100) rfl rfl Try.func38 (by kernel_rfl) rfl #[.slice Ao71 x12_2.length co71] rfl (by (try simp only [List.map_toArray, List.map_cons, List.map_nil]); first | done | rfl | (simp only [List.length_drop, List.length_take]; rfl)) ?_; (with_reducible refine (gasworksref13_sum.calls k2 _ _ x12_2 t208 _ ?side1 ?side2 A69.out).mono ?_); (case side1 => repeat (first | exact (Kd.Q_reads' HO_12.out).2.2 | (with_reducible refine Kd.C_alloc ?_ _) | (with_reducible refine Kd.C_drewN ?_ _) | (with_reducible refine Kd.C_drew ?_))); (case side2 => exact (Kd.Q_reads' HO_12.out).2.1); rintro e w' ⟨rfl, ⟨nd, rfl⟩⟩; refine ⟨_, rfl, ?_⟩; (try (rw [drewN_self wr]; generalize hq_ : World.drewN wr _ = wr; have n0_ : Aside0 (Kd.Q (Kd.int .i64) 3 wr w.heap.size (fun _ => True) (.slice Ao71 x12_2.length co71) x12_2) := ⟨by rw [← hq_]; exact (by (with_reducible repeat (first | apply Kd.Q_alloc | apply Kd.Q_drewN | apply Kd.Q_drew)); exact HO_12.out)⟩; have n1_ : Aside0 (wr.heap[gb189]? = some (.cells #[.int .i64 a0_0, .int .i64 a0_1, .int .i64 a0_2, .int .i64 a0_3, .int .i64 a0_4, .int .i64 a0_5] 23 (0, 0))) := ⟨by rw [← hq_]; exact (by (with_reducible repeat (first | refine blk_drewN ?_ _ | refine blk_drew ?_ | refine blk_alloc ?_ _)); exact BK189.out)⟩; have n2_ : Aside0 (wr.heap[gb190]? = some (.cells #[.int .i64 a1_0, .slice A1_1 l1_1.length c1_1] 72 (0, 0))) := ⟨by rw [← hq_]; exact (by (with_reducible repeat (first | refine blk_drewN ?_ _ | refine blk_drew ?_ | refine blk_alloc ?_ _)); exact BK190.out)⟩; have n3_ : Aside0 (wr.heap[gb191]? = some (.cells #[.int .i64 a2_0, .int .i64 a2_1, .int .i64 a2_2] 47 (0, 0))) := ⟨by rw [← hq_]; exact (by (with_reducible repeat (first | refine blk_drewN ?_ _ | refine blk_drew ?_ | refine blk_alloc ?_ _)); exact BK191.out)⟩; have n4_ : Aside0 (wr.heap[gb192]? = some (.cells #[.int .i64 0, .int .i64 0, .int .i64 0, .int .i64 0, .int .i64 0, .int .i64 0] 45 (0, 0))) := ⟨by rw [← hq_]; exact (by (with_reducible repeat (first | refine blk_drewN ?_ _ | refine blk_drew ?_ | refine blk_alloc ?_ _)); exact BK192.out)⟩; have n5_ : Aside0 (wr.heap[gb193]? = some (.cells #[.int .i64 0, .slice none 0 0] 72 (0, 0))) := ⟨by rw [← hq_]; exact (by (with_reducible repeat (first | refine blk_drewN ?_ _ | refine blk_drew ?_ | refine blk_alloc ?_ _)); exact BK193.out)⟩; have n6_ : Aside0 (wr.heap[gb194]? = some (.cells #[.int .i64 t195, .int .i64 (wrap64 (Int.tdiv (wrap64 (a2_1 * t195)) 10000)), .int .i64 ji7, .int .i64 0, .int .i64 0, .int .i64 0] 45 (0, 0))) := ⟨by rw [← hq_]; exact (by (with_reducible repeat (first | refine blk_drewN ?_ _ | refine blk_drew ?_ | refine blk_alloc ?_ _)); exact BK194.out)⟩; have n7_ : Aside0 (Below w.heap.size w wr) := ⟨by rw [← hq_]; exact (by repeat (first | (with_reducible first | exact HB.out | apply below_alloc | apply pw_below_drewN | apply below_drew1 | refine below_set ?_ GE189.out | refine below_set ?_ GE190.out | refine below_set ?_ GE191.out | refine below_set ?_ GE192.out | refine below_set ?_ GE193.out | refine below_set ?_ GE194.out) | exact HB.out))⟩; clear HO_12 BK189 BK190 BK191 BK192 BK193 BK194 HB hq_; have HO_12 := n0_; have BK189 := n1_; have BK190 := n2_; have BK191 := n3_; have BK192 := n4_; have BK193 := n5_; have BK194 := n6_; have HB := n7_; clear n0_ n1_ n2_ n3_ n4_ n5_ n6_ n7_)); have hnb78 := NB194_190.out; have hnc78 := NB190_194.out; have hnb79 := NB194_191.out; have hnc79 := NB191_194.out; have hnb80 := NB194_192.out; have hnc80 := NB192_194.out; have hnb81 := NB194_193.out; have hnc81 := NB193_194.out; have hcz82_0 : wr.cell? ⟨gb194, 0, none⟩ = some (.int .i64 t195) := (blk_cell BK194.out 0).trans rfl; have hcz82_1 : wr.cell? ⟨gb194, 1, none⟩ = some (.int .i64 (wrap64 (Int.tdiv (wrap64 (a2_1 * t195)) 10000))) := (blk_cell BK194.out 1).trans rfl; have hcz82_2 : wr.cell? ⟨gb194, 2, none⟩ = some (.int .i64 ji7) := (blk_cell BK194.out 2).trans rfl; have hcz82_3 : wr.cell? ⟨gb194, 3, none⟩ = some (.int .i64 0) := (blk_cell BK194.out 3).trans rfl; have hcz82_4 : wr.cell? ⟨gb194, 4, none⟩ = some (.int .i64 0) := (blk_cell BK194.out 4).trans rfl; have hcz82_5 : wr.cell? ⟨gb194, 5, none⟩ = some (.int .i64 0) := (blk_cell BK194.out 5).trans rfl; have hfz82_0 := blk_frozen BK194.out 0; have hfz82_1 := blk_frozen BK194.out 1; have hfz82_2 := blk_frozen BK194.out 2; have hfz82_3 := blk_frozen BK194.out 3; have hfz82_4 := blk_frozen BK194.out 4; have hfz82_5 := blk_frozen BK194.out 5; have hcy_0 : wr.cell? ⟨gb189, 0, none⟩ = some (.int .i64 a0_0) := (blk_cell BK189.out 0).trans rfl; have hcy_1 : wr.cell? ⟨gb189, 1, none⟩ = some (.int .i64 a0_1) := (blk_cell BK189.out 1).trans rfl; have hcy_2 : wr.cell? ⟨gb189, 2, none⟩ = some (.int .i64 a0_2) := (blk_cell BK189.out 2).trans rfl; have hcy_3 : wr.cell? ⟨gb189, 3, none⟩ = some (.int .i64 a0_3) := (blk_cell BK189.out 3).trans rfl; have hcy_4 : wr.cell? ⟨gb189, 4, none⟩ = some (.int .i64 a0_4) := (blk_cell BK189.out 4).trans rfl; have hcy_5 : wr.cell? ⟨gb189, 5, none⟩ = some (.int .i64 a0_5) := (blk_cell BK189.out 5).trans rfl))
                have n0_ : Aside0 (Kd.Q (Kd.int .i64) 3 (((wr.setCell ⟨gb194, 3, none⟩ (.int .i64 t208)).setCell ⟨gb194, 5, none⟩ (.int .i64 ji70)).setCell ⟨gb194, 4, none⟩ (.int .i64 (wrap64 ((wrap64 ((wrap64 (a1_0 + a2_2)) - (ji7))) - (ji70))))) w.heap.size (fun _ => True) (.slice Ao71 x12_2.length co71) x12_2) := ⟨by (with_reducible repeat (first | apply Kd.Q_alloc | apply Kd.Q_drewN | apply Kd.Q_drew)); exact Kd.Q_mono (Kd.Q_far (p := ⟨gb194, 4, none⟩) (Kd.Q_far (p := ⟨gb194, 5, none⟩) (Kd.Q_far (p := ⟨gb194, 3, none⟩) (Kd.Q_types HO_12.out BK194.out (by decide)) (fun _ hk => hk.2) (.int .i64 t208)) (fun _ hk => hk.2) (.int .i64 ji70)) (fun _ hk => hk.2) (.int .i64 (wrap64 ((wrap64 ((wrap64 (a1_0 + a2_2)) - (ji7))) - (ji70))))) (fun _ hk => trivial)⟩
                have n1_ : Aside0 ((((wr.setCell ⟨gb194, 3, none⟩ (.int .i64 t208)).setCell ⟨gb194, 5, none⟩ (.int .i64 ji70)).setCell ⟨gb194, 4, none⟩ (.int .i64 (wrap64 ((wrap64 ((wrap64 (a1_0 + a2_2)) - (ji7))) - (ji70))))).heap[gb189]? = some (.cells #[.int .i64 a0_0, .int .i64 a0_1, .int .i64 a0_2, .int .i64 a0_3, .int .i64 a0_4, .int .i64 a0_5] 23 (0, 0))) := ⟨by (with_reducible repeat (first | refine blk_drewN ?_ _ | refine blk_drew ?_ | refine blk_alloc ?_ _)); refine blk_far ?_ NB189_194.out _; (with_reducible repeat (first | refine blk_drewN ?_ _ | refine blk_drew ?_ | refine blk_alloc ?_ _)); refine blk_far ?_ NB189_194.out _; (with_reducible repeat (first | refine blk_drewN ?_ _ | refine blk_drew ?_ | refine blk_alloc ?_ _)); refine blk_far ?_ NB189_194.out _; (with_reducible repeat (first | refine blk_drewN ?_ _ | refine blk_drew ?_ | refine blk_alloc ?_ _)); exact BK189.out⟩
                have n2_ : Aside0 ((((wr.setCell ⟨gb194, 3, none⟩ (.int .i64 t208)).setCell ⟨gb194, 5, none⟩ (.int .i64 ji70)).setCell ⟨gb194, 4, none⟩ (.int .i64 (wrap64 ((wrap64 ((wrap64 (a1_0 + a2_2)) - (ji7))) - (ji70))))).heap[gb190]? = some (.cells #[.int .i64 a1_0, .slice A1_1 l1_1.length c1_1] 72 (0, 0))) := ⟨by (with_reducible repeat (first | refine blk_drewN ?_ _ | refine blk_drew ?_ | refine blk_alloc ?_ _)); refine blk_far ?_ NB190_194.out _; (with_reducible repeat (first | refine blk_drewN ?_ _ | refine blk_drew ?_ | refine blk_alloc ?_ _)); refine blk_far ?_ NB190_194.out _; (with_reducible repeat (first | refine blk_drewN ?_ _ | refine blk_drew ?_ | refine blk_alloc ?_ _)); refine blk_far ?_ NB190_194.out _; (with_reducible repeat (first | refine blk_drewN ?_ _ | refine blk_drew ?_ | refine blk_alloc ?_ _)); exact BK190.out⟩
                have n3_ : Aside0 ((((wr.setCell ⟨gb194, 3, none⟩ (.int .i64 t208)).setCell ⟨gb194, 5, none⟩ (.int .i64 ji70)).setCell ⟨gb194, 4, none⟩ (.int .i64 (wrap64 ((wrap64 ((wrap64 (a1_0 + a2_2)) - (ji7))) - (ji70))))).heap[gb191]? = some (.cells #[.int .i64 a2_0, .int .i64 a2_1, .int .i64 a2_2] 47 (0, 0))) := ⟨by (with_reducible repeat (first | refine blk_drewN ?_ _ | refine blk_drew ?_ | refine blk_alloc ?_ _)); refine blk_far ?_ NB191_194.out _; (with_reducible repeat (first | refine blk_drewN ?_ _ | refine blk_drew ?_ | refine blk_alloc ?_ _)); refine blk_far ?_ NB191_194.out _; (with_reducible repeat (first | refine blk_drewN ?_ _ | refine blk_drew ?_ | refine blk_alloc ?_ _)); refine blk_far ?_ NB191_194.out _; (with_reducible repeat (first | refine blk_drewN ?_ _ | refine blk_drew ?_ | refine blk_alloc ?_ _)); exact BK191.out⟩
                have n4_ : Aside0 ((((wr.setCell ⟨gb194, 3, none⟩ (.int .i64 t208)).setCell ⟨gb194, 5, none⟩ (.int .i64 ji70)).setCell ⟨gb194, 4, none⟩ (.int .i64 (wrap64 ((wrap64 ((wrap64 (a1_0 + a2_2)) - (ji7))) - (ji70))))).heap[gb192]? = some (.cells #[.int .i64 0, .int .i64 0, .int .i64 0, .int .i64 0, .int .i64 0, .int .i64 0] 45 (0, 0))) := ⟨by (with_reducible repeat (first | refine blk_drewN ?_ _ | refine blk_drew ?_ | refine blk_alloc ?_ _)); refine blk_far ?_ NB192_194.out _; (with_reducible repeat (first | refine blk_drewN ?_ _ | refine blk_drew ?_ | refine blk_alloc ?_ _)); refine blk_far ?_ NB192_194.out _; (with_reducible repeat (first | refine blk_drewN ?_ _ | refine blk_drew ?_ | refine blk_alloc ?_ _)); refine blk_far ?_ NB192_194.out _; (with_reducible repeat (first | refine blk_drewN ?_ _ | refine blk_drew ?_ | refine blk_alloc ?_ _)); exact BK192.out⟩
                have n5_ : Aside0 ((((wr.setCell ⟨gb194, 3, none⟩ (.int .i64 t208)).setCell ⟨gb194, 5, none⟩ (.int .i64 ji70)).setCell ⟨gb194, 4, none⟩ (.int .i64 (wrap64 ((wrap64 ((wrap64 (a1_0 + a2_2)) - (ji7))) - (ji70))))).heap[gb193]? = some (.cells #[.int .i64 0, .slice none 0 0] 72 (0, 0))) := ⟨by (with_reducible repeat (first | refine blk_drewN ?_ _ | refine blk_drew ?_ | refine blk_alloc ?_ _)); refine blk_far ?_ NB193_194.out _; (with_reducible repeat (first | refine blk_drewN ?_ _ | refine blk_drew ?_ | refine blk_alloc ?_ _)); refine blk_far ?_ NB193_194.out _; (with_reducible repeat (first | refine blk_drewN ?_ _ | refine blk_drew ?_ | refine blk_alloc ?_ _)); refine blk_far ?_ NB193_194.out _; (with_reducible repeat (first | refine blk_drewN ?_ _ | refine blk_drew ?_ | refine blk_alloc ?_ _)); exact BK193.out⟩
                have n6_ : Aside0 ((((wr.setCell ⟨gb194, 3, none⟩ (.int .i64 t208)).setCell ⟨gb194, 5, none⟩ (.int .i64 ji70)).setCell ⟨gb194, 4, none⟩ (.int .i64 (wrap64 ((wrap64 ((wrap64 (a1_0 + a2_2)) - (ji7))) - (ji70))))).heap[gb194]? = some (.cells #[.int .i64 t195, .int .i64 (wrap64 (Int.tdiv (wrap64 (a2_1 * t195)) 10000)), .int .i64 ji7, .int .i64 t208, .int .i64 (wrap64 ((wrap64 ((wrap64 (a1_0 + a2_2)) - (ji7))) - (ji70))), .int .i64 ji70] 45 (0, 0))) := ⟨by (with_reducible repeat (first | refine blk_drewN ?_ _ | refine blk_drew ?_ | refine blk_alloc ?_ _)); refine blk_put (cs := #[.int .i64 t195, .int .i64 (wrap64 (Int.tdiv (wrap64 (a2_1 * t195)) 10000)), .int .i64 ji7, .int .i64 t208, .int .i64 0, .int .i64 ji70]) ?_ 4 _ rfl; (with_reducible repeat (first | refine blk_drewN ?_ _ | refine blk_drew ?_ | refine blk_alloc ?_ _)); refine blk_put (cs := #[.int .i64 t195, .int .i64 (wrap64 (Int.tdiv (wrap64 (a2_1 * t195)) 10000)), .int .i64 ji7, .int .i64 t208, .int .i64 0, .int .i64 0]) ?_ 5 _ rfl; (with_reducible repeat (first | refine blk_drewN ?_ _ | refine blk_drew ?_ | refine blk_alloc ?_ _)); refine blk_put (cs := #[.int .i64 t195, .int .i64 (wrap64 (Int.tdiv (wrap64 (a2_1 * t195)) 10000)), .int .i64 ji7, .int .i64 0, .int .i64 0, .int .i64 0]) ?_ 3 _ rfl; (with_reducible repeat (first | refine blk_drewN ?_ _ | refine blk_drew ?_ | refine blk_alloc ?_ _)); exact BK194.out⟩
                have n7_ : Aside0 (Below w.heap.size w (((wr.setCell ⟨gb194, 3, none⟩ (.int .i64 t208)).setCell ⟨gb194, 5, none⟩ (.int .i64 ji70)).setCell ⟨gb194, 4, none⟩ (.int .i64 (wrap64 ((wrap64 ((wrap64 (a1_0 + a2_2)) - (ji7))) - (ji70)))))) := ⟨by repeat (first | (with_reducible first | exact HB.out | apply below_alloc | apply pw_below_drewN | apply below_drew1 | refine below_set ?_ GE189.out | refine below_set ?_ GE190.out | refine below_set ?_ GE191.out | refine below_set ?_ GE192.out | refine below_set ?_ GE193.out | refine below_set ?_ GE194.out) | exact HB.out)⟩
                (try clear HO_12)
                (try clear BK189)
                (try clear BK190)
                (try clear BK191)
                (try clear BK192)
                (try clear BK193)
                (try clear BK194)
                (try clear HB)
                generalize (((wr.setCell ⟨gb194, 3, none⟩ (.int .i64 t208)).setCell ⟨gb194, 5, none⟩ (.int .i64 ji70)).setCell ⟨gb194, 4, none⟩ (.int .i64 (wrap64 ((wrap64 ((wrap64 (a1_0 + a2_2)) - (ji7))) - (ji70))))) = w83 at n0_ n1_ n2_ n3_ n4_ n5_ n6_ n7_ ⊢
                have HO_12 := n0_
                have BK189 := n1_
                have BK190 := n2_
                have BK191 := n3_
                have BK192 := n4_
                have BK193 := n5_
                have BK194 := n6_
                have HB := n7_
                clear n0_ n1_ n2_ n3_ n4_ n5_ n6_ n7_
                have n0_ := Aside0.mk (Kd.Q_drew HO_12.out)
                have n1_ := Aside0.mk (blk_drew BK189.out)
                have n2_ := Aside0.mk (blk_drew BK190.out)
                have n3_ := Aside0.mk (blk_drew BK191.out)
                have n4_ := Aside0.mk (blk_drew BK192.out)
                have n5_ := Aside0.mk (blk_drew BK193.out)
                have n6_ := Aside0.mk (blk_drew BK194.out)
                have n7_ := Aside0.mk (below_drew1 HB.out)
                clear HO_12
                clear BK189
                clear BK190
                clear BK191
                clear BK192
                clear BK193
                clear BK194
                clear HB
                have HO_12 := n0_
                have BK189 := n1_
                have BK190 := n2_
                have BK191 := n3_
                have BK192 := n4_
                have BK193 := n5_
                have BK194 := n6_
                have HB := n7_
                clear n0_ n1_ n2_ n3_ n4_ n5_ n6_ n7_
                refine start_ (n := 7) (S := fun w' => w'.cell? ⟨gb194, 0, none⟩ = some (.int .i64 t195) ∧ w'.cell? ⟨gb194, 1, none⟩ = some (.int .i64 (wrap64 (Int.tdiv (wrap64 (a2_1 * t195)) 10000))) ∧ w'.cell? ⟨gb194, 2, none⟩ = some (.int .i64 ji7) ∧ w'.cell? ⟨gb194, 3, none⟩ = some (.int .i64 t208) ∧ w'.cell? ⟨gb194, 4, none⟩ = some (.int .i64 (wrap64 ((wrap64 ((wrap64 (a1_0 + a2_2)) - (ji7))) - (ji70)))) ∧ w'.cell? ⟨gb194, 5, none⟩ = some (.int .i64 ji70)) (ds := []) #[false, false, false, false, false, false, false] (by kernel_rfl) rfl rfl ⟨(blk_cell BK194.out 0).trans rfl, (blk_cell BK194.out 1).trans rfl, (blk_cell BK194.out 2).trans rfl, (blk_cell BK194.out 3).trans rfl, (blk_cell BK194.out 4).trans rfl, (blk_cell BK194.out 5).trans rfl⟩ (fun hHeld => ?_)
                generalize w83.drew = w84 at HO_12 BK189 BK190 BK191 BK192 BK193 BK194 HB hHeld ⊢
                refine pure_ (i := 1) (N := some 114) (v := ?_) (a' := ?_) #[false, true, false, false, false, false, false] rfl rfl (by kernel_rfl) (fun _ _ _ h => h) (Or.inl ⟨by rfl, ?_⟩) ?_ ?_
                rotate_left
                · intro w'
                  go_simp
                  with_reducible rfl
                rotate_left
                · simp only [Act.put, List.setIfInBounds_toArray, List.set_cons_zero, List.set_cons_succ, i64_w, i32_w]
                  rfl
                refine pure_ (i := 3) (N := some 116) (v := ?_) (a' := ?_) #[false, true, false, true, false, false, false] rfl rfl (by kernel_rfl) (fun _ _ _ h => h) (Or.inl ⟨by rfl, ?_⟩) ?_ ?_
                rotate_left
                · intro w'
                  go_simp
                  with_reducible rfl
                rotate_left
                · simp only [Act.put, List.setIfInBounds_toArray, List.set_cons_zero, List.set_cons_succ, i64_w, i32_w]
                  rfl
                refine take_ (i := 0) (N := some 113) (v := ?_) (a' := ?_) #[true, true, false, true, false, false, false] rfl rfl (by kernel_rfl) (fun _ _ _ h => h) (Or.inl ⟨by rfl, ?_⟩) hHeld ?_ ?_
                rotate_left
                · rintro w' ⟨s0, s1, s2, s3, s4, s5⟩
                  go_simp
                  with_reducible rfl
                rotate_left
                · simp only [Act.put, List.setIfInBounds_toArray, List.set_cons_zero, List.set_cons_succ, i64_w, i32_w]
                  rfl
                refine take_ (i := 2) (N := some 115) (v := ?_) (a' := ?_) #[true, true, true, true, false, false, false] rfl rfl (by kernel_rfl) (fun _ _ _ h => h) (Or.inl ⟨by rfl, ?_⟩) hHeld ?_ ?_
                rotate_left
                · rintro w' ⟨s0, s1, s2, s3, s4, s5⟩
                  go_simp
                  with_reducible rfl
                rotate_left
                · simp only [Act.put, List.setIfInBounds_toArray, List.set_cons_zero, List.set_cons_succ, i64_w, i32_w]
                  rfl
                refine pure_ (i := 4) (N := some 117) (v := ?_) (a' := ?_) #[true, true, true, true, true, false, false] rfl rfl (by kernel_rfl) (fun _ _ _ h => h) (Or.inl ⟨by rfl, ?_⟩) ?_ ?_
                rotate_left
                · intro w'
                  go_simp
                  with_reducible rfl
                rotate_left
                · simp only [Act.put, List.setIfInBounds_toArray, List.set_cons_zero, List.set_cons_succ, i64_w, i32_w]
                  rfl
                refine one_ (i := 5) (N := none) #[true, true, true, true, true, true, false] rfl rfl (by kernel_rfl) (by decide) (fun K hK => ?_)
                have hs85 : w84.cell? ⟨gb192, 0, none⟩ = some (.int .i64 0) := (blk_cell BK192.out 0).trans rfl
                have hfs85 := blk_frozen BK192.out 0
                have hns85_0 := NB189_192.out
                have hns85_1 := NB190_192.out
                have hns85_2 := NB191_192.out
                have hns85_4 := NB193_192.out
                have hns85_5 := NB194_192.out
                have hms85_0 := NB192_189.out
                have hms85_1 := NB192_190.out
                have hms85_2 := NB192_191.out
                have hms85_4 := NB192_193.out
                have hms85_5 := NB192_194.out
                have hs86 : w84.cell? ⟨gb192, 1, none⟩ = some (.int .i64 0) := (blk_cell BK192.out 1).trans rfl
                have hfs86 := blk_frozen BK192.out 1
                have hns86_0 := NB189_192.out
                have hns86_1 := NB190_192.out
                have hns86_2 := NB191_192.out
                have hns86_4 := NB193_192.out
                have hns86_5 := NB194_192.out
                have hms86_0 := NB192_189.out
                have hms86_1 := NB192_190.out
                have hms86_2 := NB192_191.out
                have hms86_4 := NB192_193.out
                have hms86_5 := NB192_194.out
                have hs87 : w84.cell? ⟨gb192, 2, none⟩ = some (.int .i64 0) := (blk_cell BK192.out 2).trans rfl
                have hfs87 := blk_frozen BK192.out 2
                have hns87_0 := NB189_192.out
                have hns87_1 := NB190_192.out
                have hns87_2 := NB191_192.out
                have hns87_4 := NB193_192.out
                have hns87_5 := NB194_192.out
                have hms87_0 := NB192_189.out
                have hms87_1 := NB192_190.out
                have hms87_2 := NB192_191.out
                have hms87_4 := NB192_193.out
                have hms87_5 := NB192_194.out
                have hs88 : w84.cell? ⟨gb192, 3, none⟩ = some (.int .i64 0) := (blk_cell BK192.out 3).trans rfl
                have hfs88 := blk_frozen BK192.out 3
                have hns88_0 := NB189_192.out
                have hns88_1 := NB190_192.out
                have hns88_2 := NB191_192.out
                have hns88_4 := NB193_192.out
                have hns88_5 := NB194_192.out
                have hms88_0 := NB192_189.out
                have hms88_1 := NB192_190.out
                have hms88_2 := NB192_191.out
                have hms88_4 := NB192_193.out
                have hms88_5 := NB192_194.out
                have hs89 : w84.cell? ⟨gb192, 4, none⟩ = some (.int .i64 0) := (blk_cell BK192.out 4).trans rfl
                have hfs89 := blk_frozen BK192.out 4
                have hns89_0 := NB189_192.out
                have hns89_1 := NB190_192.out
                have hns89_2 := NB191_192.out
                have hns89_4 := NB193_192.out
                have hns89_5 := NB194_192.out
                have hms89_0 := NB192_189.out
                have hms89_1 := NB192_190.out
                have hms89_2 := NB192_191.out
                have hms89_4 := NB192_193.out
                have hms89_5 := NB192_194.out
                have hs90 : w84.cell? ⟨gb192, 5, none⟩ = some (.int .i64 0) := (blk_cell BK192.out 5).trans rfl
                have hfs90 := blk_frozen BK192.out 5
                have hns90_0 := NB189_192.out
                have hns90_1 := NB190_192.out
                have hns90_2 := NB191_192.out
                have hns90_4 := NB193_192.out
                have hns90_5 := NB194_192.out
                have hms90_0 := NB192_189.out
                have hms90_1 := NB192_190.out
                have hms90_2 := NB192_191.out
                have hms90_4 := NB192_193.out
                have hms90_5 := NB192_194.out
                refine skip_ (w1 := ?_) (by rfl) rfl ?_ ?_
                rotate_left
                · go_simp
                  rfl
                refine hK.out _ _ ⟨((cell_far (p := ⟨gb192, _, none⟩) NB194_192.out _).trans (((cell_far (p := ⟨gb192, _, none⟩) NB194_192.out _).trans (((cell_far (p := ⟨gb192, _, none⟩) NB194_192.out _).trans (((cell_far (p := ⟨gb192, _, none⟩) NB194_192.out _).trans (((cell_far (p := ⟨gb192, _, none⟩) NB194_192.out _).trans (((cell_far (p := ⟨gb192, _, none⟩) NB194_192.out _).trans (hHeld.1)))))))))))), ((cell_far (p := ⟨gb192, _, none⟩) NB194_192.out _).trans (((cell_far (p := ⟨gb192, _, none⟩) NB194_192.out _).trans (((cell_far (p := ⟨gb192, _, none⟩) NB194_192.out _).trans (((cell_far (p := ⟨gb192, _, none⟩) NB194_192.out _).trans (((cell_far (p := ⟨gb192, _, none⟩) NB194_192.out _).trans (((cell_far (p := ⟨gb192, _, none⟩) NB194_192.out _).trans (hHeld.2.1)))))))))))), ((cell_far (p := ⟨gb192, _, none⟩) NB194_192.out _).trans (((cell_far (p := ⟨gb192, _, none⟩) NB194_192.out _).trans (((cell_far (p := ⟨gb192, _, none⟩) NB194_192.out _).trans (((cell_far (p := ⟨gb192, _, none⟩) NB194_192.out _).trans (((cell_far (p := ⟨gb192, _, none⟩) NB194_192.out _).trans (((cell_far (p := ⟨gb192, _, none⟩) NB194_192.out _).trans (hHeld.2.2.1)))))))))))), ((cell_far (p := ⟨gb192, _, none⟩) NB194_192.out _).trans (((cell_far (p := ⟨gb192, _, none⟩) NB194_192.out _).trans (((cell_far (p := ⟨gb192, _, none⟩) NB194_192.out _).trans (((cell_far (p := ⟨gb192, _, none⟩) NB194_192.out _).trans (((cell_far (p := ⟨gb192, _, none⟩) NB194_192.out _).trans (((cell_far (p := ⟨gb192, _, none⟩) NB194_192.out _).trans (hHeld.2.2.2.1)))))))))))), ((cell_far (p := ⟨gb192, _, none⟩) NB194_192.out _).trans (((cell_far (p := ⟨gb192, _, none⟩) NB194_192.out _).trans (((cell_far (p := ⟨gb192, _, none⟩) NB194_192.out _).trans (((cell_far (p := ⟨gb192, _, none⟩) NB194_192.out _).trans (((cell_far (p := ⟨gb192, _, none⟩) NB194_192.out _).trans (((cell_far (p := ⟨gb192, _, none⟩) NB194_192.out _).trans (hHeld.2.2.2.2.1)))))))))))), ((cell_far (p := ⟨gb192, _, none⟩) NB194_192.out _).trans (((cell_far (p := ⟨gb192, _, none⟩) NB194_192.out _).trans (((cell_far (p := ⟨gb192, _, none⟩) NB194_192.out _).trans (((cell_far (p := ⟨gb192, _, none⟩) NB194_192.out _).trans (((cell_far (p := ⟨gb192, _, none⟩) NB194_192.out _).trans (((cell_far (p := ⟨gb192, _, none⟩) NB194_192.out _).trans (hHeld.2.2.2.2.2))))))))))))⟩ (fun hHeld => ?_)
                clear hK K
                refine one_ (i := 6) (N := none) #[true, true, true, true, true, true, true] rfl rfl (by kernel_rfl) (by decide) (fun K hK => ?_)
                have hs91 : w84.cell? ⟨gb193, 0, none⟩ = some (.int .i64 0) := (blk_cell BK193.out 0).trans rfl
                have hfs91 := blk_frozen BK193.out 0
                have hns91_0 := NB189_193.out
                have hns91_1 := NB190_193.out
                have hns91_2 := NB191_193.out
                have hns91_3 := NB192_193.out
                have hns91_5 := NB194_193.out
                have hms91_0 := NB193_189.out
                have hms91_1 := NB193_190.out
                have hms91_2 := NB193_191.out
                have hms91_3 := NB193_192.out
                have hms91_5 := NB193_194.out
                have hs92 : w84.cell? ⟨gb193, 1, none⟩ = some (.slice none 0 0) := (blk_cell BK193.out 1).trans rfl
                have hfs92 := blk_frozen BK193.out 1
                have hns92_0 := NB189_193.out
                have hns92_1 := NB190_193.out
                have hns92_2 := NB191_193.out
                have hns92_3 := NB192_193.out
                have hns92_5 := NB194_193.out
                have hms92_0 := NB193_189.out
                have hms92_1 := NB193_190.out
                have hms92_2 := NB193_191.out
                have hms92_3 := NB193_192.out
                have hms92_5 := NB193_194.out
                refine skip_ (w1 := ?_) (by rfl) rfl ?_ ?_
                rotate_left
                · go_simp
                  rfl
                refine hK.out _ _ ⟨((cell_far (p := ⟨gb193, _, none⟩) NB194_193.out _).trans (((cell_far (p := ⟨gb193, _, none⟩) NB194_193.out _).trans (hHeld.1)))), ((cell_far (p := ⟨gb193, _, none⟩) NB194_193.out _).trans (((cell_far (p := ⟨gb193, _, none⟩) NB194_193.out _).trans (hHeld.2.1)))), ((cell_far (p := ⟨gb193, _, none⟩) NB194_193.out _).trans (((cell_far (p := ⟨gb193, _, none⟩) NB194_193.out _).trans (hHeld.2.2.1)))), ((cell_far (p := ⟨gb193, _, none⟩) NB194_193.out _).trans (((cell_far (p := ⟨gb193, _, none⟩) NB194_193.out _).trans (hHeld.2.2.2.1)))), ((cell_far (p := ⟨gb193, _, none⟩) NB194_193.out _).trans (((cell_far (p := ⟨gb193, _, none⟩) NB194_193.out _).trans (hHeld.2.2.2.2.1)))), ((cell_far (p := ⟨gb193, _, none⟩) NB194_193.out _).trans (((cell_far (p := ⟨gb193, _, none⟩) NB194_193.out _).trans (hHeld.2.2.2.2.2))))⟩ (fun hHeld => ?_)
                clear hK K
                refine done_ (by kernel_rfl) ?_
                try go_wp2
                refine bodyPost_ret (results_cc rfl _ _ gb192 gb193 45 72 #[.int .i64 t195, .int .i64 (wrap64 (Int.tdiv (wrap64 (a2_1 * t195)) 10000)), .int .i64 ji7, .int .i64 t208, .int .i64 (wrap64 ((wrap64 ((wrap64 (a1_0 + a2_2)) - (ji7))) - (ji70))), .int .i64 ji70] #[.int .i64 (wrap64 ((wrap64 ((wrap64 (a1_0 + a2_2)) - (ji7))) - (ji70))), .slice Ao71 x12_2.length co71] (0, 0) (0, 0) _ _ rfl (by (with_reducible repeat (first | refine blk_drewN ?_ _ | refine blk_drew ?_ | refine blk_alloc ?_ _)); refine blk_far ?_ NB192_193.out _; (with_reducible repeat (first | refine blk_drewN ?_ _ | refine blk_drew ?_ | refine blk_alloc ?_ _)); refine blk_far ?_ NB192_193.out _; (with_reducible repeat (first | refine blk_drewN ?_ _ | refine blk_drew ?_ | refine blk_alloc ?_ _)); refine blk_put (cs := #[.int .i64 t195, .int .i64 (wrap64 (Int.tdiv (wrap64 (a2_1 * t195)) 10000)), .int .i64 ji7, .int .i64 t208, .int .i64 (wrap64 ((wrap64 ((wrap64 (a1_0 + a2_2)) - (ji7))) - (ji70))), .int .i64 0]) ?_ 5 _ rfl; (with_reducible repeat (first | refine blk_drewN ?_ _ | refine blk_drew ?_ | refine blk_alloc ?_ _)); refine blk_put (cs := #[.int .i64 t195, .int .i64 (wrap64 (Int.tdiv (wrap64 (a2_1 * t195)) 10000)), .int .i64 ji7, .int .i64 t208, .int .i64 0, .int .i64 0]) ?_ 4 _ rfl; (with_reducible repeat (first | refine blk_drewN ?_ _ | refine blk_drew ?_ | refine blk_alloc ?_ _)); refine blk_put (cs := #[.int .i64 t195, .int .i64 (wrap64 (Int.tdiv (wrap64 (a2_1 * t195)) 10000)), .int .i64 ji7, .int .i64 0, .int .i64 0, .int .i64 0]) ?_ 3 _ rfl; (with_reducible repeat (first | refine blk_drewN ?_ _ | refine blk_drew ?_ | refine blk_alloc ?_ _)); refine blk_put (cs := #[.int .i64 t195, .int .i64 (wrap64 (Int.tdiv (wrap64 (a2_1 * t195)) 10000)), .int .i64 0, .int .i64 0, .int .i64 0, .int .i64 0]) ?_ 2 _ rfl; (with_reducible repeat (first | refine blk_drewN ?_ _ | refine blk_drew ?_ | refine blk_alloc ?_ _)); refine blk_put (cs := #[.int .i64 t195, .int .i64 0, .int .i64 0, .int .i64 0, .int .i64 0, .int .i64 0]) ?_ 1 _ rfl; (with_reducible repeat (first | refine blk_drewN ?_ _ | refine blk_drew ?_ | refine blk_alloc ?_ _)); refine blk_put (cs := #[.int .i64 0, .int .i64 0, .int .i64 0, .int .i64 0, .int .i64 0, .int .i64 0]) ?_ 0 _ rfl; (with_reducible repeat (first | refine blk_drewN ?_ _ | refine blk_drew ?_ | refine blk_alloc ?_ _)); exact BK192.out) Try.underlying45 rfl (by kernel_rfl) rfl (by (with_reducible repeat (first | refine blk_drewN ?_ _ | refine blk_drew ?_ | refine blk_alloc ?_ _)); refine blk_put (cs := #[.int .i64 (wrap64 ((wrap64 ((wrap64 (a1_0 + a2_2)) - (ji7))) - (ji70))), .slice none 0 0]) ?_ 1 _ rfl; (with_reducible repeat (first | refine blk_drewN ?_ _ | refine blk_drew ?_ | refine blk_alloc ?_ _)); refine blk_put (cs := #[.int .i64 0, .slice none 0 0]) ?_ 0 _ rfl; (with_reducible repeat (first | refine blk_drewN ?_ _ | refine blk_drew ?_ | refine blk_alloc ?_ _)); refine blk_far ?_ NB193_192.out _; (with_reducible repeat (first | refine blk_drewN ?_ _ | refine blk_drew ?_ | refine blk_alloc ?_ _)); refine blk_far ?_ NB193_192.out _; (with_reducible repeat (first | refine blk_drewN ?_ _ | refine blk_drew ?_ | refine blk_alloc ?_ _)); refine blk_far ?_ NB193_192.out _; (with_reducible repeat (first | refine blk_drewN ?_ _ | refine blk_drew ?_ | refine blk_alloc ?_ _)); refine blk_far ?_ NB193_192.out _; (with_reducible repeat (first | refine blk_drewN ?_ _ | refine blk_drew ?_ | refine blk_alloc ?_ _)); refine blk_far ?_ NB193_192.out _; (with_reducible repeat (first | refine blk_drewN ?_ _ | refine blk_drew ?_ | refine blk_alloc ?_ _)); refine blk_far ?_ NB193_192.out _; (with_reducible repeat (first | refine blk_drewN ?_ _ | refine blk_drew ?_ | refine blk_alloc ?_ _)); exact BK193.out) Try.underlying72 rfl (by kernel_rfl)) rfl ?_
                exact ⟨_, by first | rfl | (simp [errW_none, errW_some] <;> rfl) | (simp only [← hji6, ← hji7, ← hji8, ← hji70]; first | rfl | (simp [errW_none, errW_some] <;> rfl)) | (simp [*, errW_none, errW_some] <;> rfl), by (with_reducible repeat (first | apply Kd.Q_alloc | apply Kd.Q_drewN | apply Kd.Q_drew)); exact Kd.Q_mono (Kd.Q_far (p := ⟨gb193, 1, none⟩) (Kd.Q_far (p := ⟨gb193, 0, none⟩) (Kd.Q_far (p := ⟨gb192, 5, none⟩) (Kd.Q_far (p := ⟨gb192, 4, none⟩) (Kd.Q_far (p := ⟨gb192, 3, none⟩) (Kd.Q_far (p := ⟨gb192, 2, none⟩) (Kd.Q_far (p := ⟨gb192, 1, none⟩) (Kd.Q_far (p := ⟨gb192, 0, none⟩) (Kd.Q_types (Kd.Q_types HO_12.out BK192.out (by decide)) BK193.out (by decide)) (fun _ hk => hk.1.2) (.int .i64 t195)) (fun _ hk => hk.1.2) (.int .i64 (wrap64 (Int.tdiv (wrap64 (a2_1 * t195)) 10000)))) (fun _ hk => hk.1.2) (.int .i64 ji7)) (fun _ hk => hk.1.2) (.int .i64 t208)) (fun _ hk => hk.1.2) (.int .i64 (wrap64 ((wrap64 ((wrap64 (a1_0 + a2_2)) - (ji7))) - (ji70))))) (fun _ hk => hk.1.2) (.int .i64 ji70)) (fun _ hk => hk.2) (.int .i64 (wrap64 ((wrap64 ((wrap64 (a1_0 + a2_2)) - (ji7))) - (ji70))))) (fun _ hk => hk.2) (.slice Ao71 x12_2.length co71)) (fun _ hk => trivial), by repeat (first | (with_reducible first | exact HB.out | apply below_alloc | apply pw_below_drewN | apply below_drew1 | refine below_set ?_ GE189.out | refine below_set ?_ GE190.out | refine below_set ?_ GE191.out | refine below_set ?_ GE192.out | refine below_set ?_ GE193.out | refine below_set ?_ GE194.out) | exact HB.out)⟩
        · rw [if_neg c51] at H
          exact absurd H (by simp)

end Go.Proofs.Ytnammdkpejocmaa.Print
