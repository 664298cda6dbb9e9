/- From the walks' words to those of the trees: which junctions are fed, what flows, pressures. -/
import Derived.Test.YtbjinkkmakhbaaaA14
import Derived.Test.YtbjinkkmakhbaaaMath
namespace Go.Proofs.Ytbjinkkmakhbaaa.Print
open Go.RowKit Go.Shelf Go.Proofs.YtbjinkkmakhbaaaW.PrintWords Go.Proofs.YtbjinkkmakhbaaaW.PrintLast Go.Proofs.YtbjinkkmakhbaaaW.PrintMore
set_option linter.unusedVariables false
set_option linter.unusedSimpArgs false
/-- The tree of a network. -/
def netM (js : List S50) (ms : List S54) : PipeMath.Net where
  n := ms.length
  par := fun k => min (rd_T54 ms k).f0.toNat k
  drop := fun k => max 0 (rd_T54 ms k).f1
  gov := fun j => (rd_T50 js j).f3
  le := fun k => Nat.min_le_right _ _
  dropNn := fun k => by omega
theorem fedQ_m (js : List S50) (ms : List S54) (O : Nat → Bool) : ∀ j, fedQ ms O j = PipeMath.fed (netM js ms) O j
  | 0 => by rw [fedQ, PipeMath.fed]
  | k + 1 => by
    rw [fedQ, PipeMath.fed]
    have := fedQ_m js ms O (min (rd_T54 ms k).f0.toNat k)
    rw [this]
    rfl
termination_by j => j
decreasing_by omega
theorem kidsL_range : ∀ (l : List S54) (k : Nat) (j : Int), kidsL k l j = ((List.range l.length).filter (fun t : Nat => (rd_T54 l (t : Int)).f0 == j)).map (fun t : Nat => ((k + t : Nat) : Int) + 1) := by
  intro l
  induction l with
  | nil => intro k j; rfl
  | cons m r ih =>
    intro k j
    rw [kidsL, List.length_cons, List.range_succ_eq_map, List.filter_cons, List.filter_map, ih (k + 1) j]
    have e0 : ((rd_T54 (m :: r) ((0 : Nat) : Int)).f0 == j) = decide (m.f0 = j) := by rw [Bool.eq_iff_iff, beq_iff_eq, decide_eq_true_eq]; simp [rd_T54]
    have e1 : ((fun t : Nat => (rd_T54 (m :: r) (t : Int)).f0 == j) ∘ Nat.succ) = fun t : Nat => (rd_T54 r (t : Int)).f0 == j := by
      funext t
      simp [rd_T54, Function.comp]
    rw [e0, e1]
    by_cases h : m.f0 = j
    · rw [if_pos h, if_pos (by simpa using h), List.map_cons, List.map_map]
      simp only [Nat.add_zero, List.cons.injEq, true_and]
      refine List.map_congr_left (fun t _ => ?_)
      simp only [Function.comp, Nat.succ_eq_add_one]
      omega
    · rw [if_neg h, if_neg (by simpa using h), List.map_map]
      refine List.map_congr_left (fun t _ => ?_)
      simp only [Function.comp, Nat.succ_eq_add_one]
      omega
theorem kids_m (js : List S50) {ms : List S54} (hm : anyM 0 ms = false) (j : Nat) : kidsN ms j = (PipeMath.kids (netM js ms) j).map (fun c : Nat => (c : Int)) := by
  unfold kidsN PipeMath.kids
  rw [kidsL_range, List.map_map]
  have e : (List.range ms.length).filter (fun t : Nat => (rd_T54 ms (t : Int)).f0 == (j : Int)) = (List.range (netM js ms).n).filter (fun k => (netM js ms).par k == j) := by
    refine List.filter_congr (fun t ht => ?_)
    have h := mains_ok hm t (by simpa using ht)
    show _ = (min (rd_T54 ms t).f0.toNat t == j)
    rw [Bool.eq_iff_iff, beq_iff_eq, beq_iff_eq]
    omega
  rw [e]
  refine List.map_congr_left (fun t _ => ?_)
  simp
theorem belowL_m (js : List S50) {ms : List S54} (hm : anyM 0 ms = false) (f : Nat → Bool) : ∀ (d j : Nat), belowL ms f d j = (PipeMath.below (netM js ms) f d j).map (fun c : Nat => (c : Int))
  | 0, _ => rfl
  | d + 1, j => by
    rw [belowL, PipeMath.below, kids_m js hm]
    by_cases h : f j = true
    · rw [if_pos h, if_pos h, List.map_cons, List.flatMap_map, List.map_flatMap]
      congr 1
      refine congrArg (fun g => (PipeMath.kids (netM js ms) j).flatMap g) ?_
      funext c
      rw [Int.toNat_natCast, belowL_m js hm f d c]
    · rw [if_neg h, if_neg h]
      rfl
theorem below_congr (N : PipeMath.Net) {f g : Nat → Bool} (h : ∀ i, i ≤ N.n → f i = g i) : ∀ (d j : Nat), j ≤ N.n → PipeMath.below N f d j = PipeMath.below N g d j
  | 0, _, _ => rfl
  | d + 1, j, hj => by
    rw [PipeMath.below, PipeMath.below, h j hj]
    have : (PipeMath.kids N j).flatMap (PipeMath.below N f d) = (PipeMath.kids N j).flatMap (PipeMath.below N g d) := by
      rw [List.flatMap_def, List.flatMap_def]
      congr 1
      refine List.map_congr_left (fun c hc => ?_)
      obtain ⟨k, hk, _, rfl⟩ := (PipeMath.mem_kids N).1 hc
      exact below_congr N h d (k + 1) (by omega)
    rw [this]
/-- All that is told below a junction, as the array of the fed has it. -/
theorem belowJ_m (js : List S50) {ms : List S54} (hm : anyM 0 ms = false) (all : Bool) (j0 j : Nat) (hj : j ≤ ms.length) : belowJ ms (fedA ms all j0) j = (PipeMath.below (netM js ms) (PipeMath.fed (netM js ms) (openQ ms all j0)) (ms.length + 1) j).map (fun c : Nat => (c : Int)) := by
  unfold belowJ
  rw [belowL_m js hm]
  congr 1
  refine below_congr _ (fun i hi => ?_) _ _ hj
  unfold fedA
  rw [decide_eq_true (show i ≤ ms.length from hi), Bool.true_and, fedQ_m js]
theorem len_sumL {α : Type} : ∀ l : List α, PipeMath.sumL (l.map fun _ => (1 : Int)) = l.length
  | [] => rfl
  | x :: l => by simp only [List.map_cons, PipeMath.sumL, len_sumL l, List.length_cons]; omega
theorem sumN_le {f : Nat → Int} {b : Int} : ∀ n, (∀ i, f i ≤ b) → PipeMath.sumN f n ≤ b * n
  | 0, _ => by simp [PipeMath.sumN]
  | n + 1, h => by
    have h1 := sumN_le n h
    have h2 := h n
    simp only [PipeMath.sumN]
    have : b * ((n + 1 : Nat) : Int) = b * n + b := by rw [Int.natCast_add, Int.mul_add]; simp
    omega
theorem belowJ_len (js : List S50) {ms : List S54} (hm : anyM 0 ms = false) (all : Bool) (j0 j : Nat) (hj : j ≤ ms.length) : (belowJ ms (fedA ms all j0) j).length ≤ ms.length + 1 := by
  rw [belowJ_m js hm all j0 j hj, List.length_map]
  have h1 := PipeMath.below_sum (netM js ms) (openQ ms all j0) (fun _ => 1) (ms.length + 1) j hj (show ms.length < j + (ms.length + 1) by omega)
  have h2 := len_sumL (PipeMath.below (netM js ms) (PipeMath.fed (netM js ms) (openQ ms all j0)) (ms.length + 1) j)
  have h3 : PipeMath.drawn (netM js ms) (openQ ms all j0) (fun _ => 1) j ≤ 1 * ((ms.length + 1 : Nat) : Int) := sumN_le _ (fun i => by
    show (if _ then (1 : Int) else 0) ≤ 1
    split
    · exact Int.le_refl _
    · decide)
  rw [h2] at h1
  omega
theorem sumE_sumL (js : List S50) (d : Bool) : ∀ l : List Nat, sumE js d (l.map fun c : Nat => (c : Int)) = PipeMath.sumL (l.map fun c : Nat => endE d (rd_T50 js (c : Int)).f0) := by
  have : ∀ (l : List Nat) (s : Int), (l.map fun c : Nat => (c : Int)).foldl (fun s x => s + endE d (rd_T50 js x).f0) s = s + PipeMath.sumL (l.map fun c : Nat => endE d (rd_T50 js (c : Int)).f0) := by
    intro l
    induction l with
    | nil => intro s; simp [PipeMath.sumL]
    | cons x l ih => intro s; simp only [List.map_cons, List.foldl_cons, PipeMath.sumL, ih]; omega
  intro l
  unfold sumE
  rw [this]
  omega
/-- One end of what is drawn. -/
def needM (js : List S50) (d : Bool) (j : Nat) : Int := endE d (rd_T50 js j).f0
theorem govP_m (js : List S50) (ms : List S54) (j : Nat) (p : Int) : govP js j p = PipeMath.cap ((netM js ms).gov j) p := by
  show _ = PipeMath.cap (rd_T50 js j).f3 p
  unfold govP PipeMath.cap
  split
  · rfl
  · split <;> omega
theorem press_m (js : List S50) {ms : List S54} (hm : anyM 0 ms = false) (d all : Bool) (j0 : Nat) (src : Int) : ∀ j, j ≤ ms.length → pressP js ms d (fedA ms all j0) src j = PipeMath.at_ (netM js ms) (openQ ms all j0) (needM js d) src j
  | 0, _ => by
    rw [pressP, PipeMath.at_, govP_m js ms]
  | k + 1, hk => by
    rw [pressP, PipeMath.at_, govP_m js ms, press_m js hm d all j0 src (min (rd_T54 ms k).f0.toNat k) (by omega), belowJ_m js hm all j0 (k + 1) hk, sumE_sumL]
    have h1 := PipeMath.below_sum (netM js ms) (openQ ms all j0) (needM js d) (ms.length + 1) (k + 1) hk (show ms.length < (k + 1) + (ms.length + 1) by omega)
    unfold needM at h1 ⊢
    rw [h1, ← PipeMath.through_drawn]
    have h2 := mains_ok hm k (by omega)
    have h3 : (netM js ms).drop k = (rd_T54 ms k).f1 := by show max 0 (rd_T54 ms k).f1 = _; omega
    rw [h3]
    rfl
termination_by j => j
decreasing_by omega
end Go.Proofs.Ytbjinkkmakhbaaa.Print
