/- Pressures: the plain function, its bounds, and a region of a round that draws its order. -/
import Derived.Test.YtbjinkkmakhbaaaA13
namespace Go.Proofs.Ytbjinkkmakhbaaa.Print
open Go.RowKit Go.Shelf Go.Proofs.YtbjinkkmakhbaaaW.PrintWords Go.Proofs.YtbjinkkmakhbaaaW.PrintLast Go.Proofs.YtbjinkkmakhbaaaW.PrintMore
set_option linter.unusedVariables false
set_option linter.unusedSimpArgs false
attribute [local go_sem] Oper.semAt_some
/-- A drawn region of a round, by the printed words. -/
theorem startR_ {P : Program} {ops : Array Oper} {Q : Exit → Act → World → Prop} {S : World → Prop} {ds : List Nat} {id n l m : Nat} {a : Act} {w : World} (L : Array Bool) (hd : noDefersA ops = true) (hm : P.follows .mixedOrders = true) (hout : ¬ LetsOut Q) (hn : ops.size = n) (hl : Array.replicate n false = L) (hS : S w.drew)
    (h : S w.drew → wpAnyLast P .any ops Q S ds n L a w.drew) : (Code.region id ops true).wpIn (Fence.wide.inRound l) m P Q a w := by
  subst hn
  subst hl
  exact wpIn_region_any hm (wpAnyIn_of_wpAny hout hd _ _ _ _ (wpAny_of_last _ _ _ _ (h hS)))
theorem junction_ok {js : List S50} (h : anyJ js = false) (k : Nat) : (0 ≤ (rd_T50 js k).f0.f0 ∧ (rd_T50 js k).f0.f0 ≤ (rd_T50 js k).f0.f1 ∧ (rd_T50 js k).f0.f1 ≤ 1000000) ∧ (-1099511627776 ≤ (rd_T50 js k).f1 ∧ (rd_T50 js k).f1 ≤ (rd_T50 js k).f2 ∧ (rd_T50 js k).f2 ≤ 1099511627776) ∧ (-1 ≤ (rd_T50 js k).f3 ∧ (rd_T50 js k).f3 ≤ 1099511627776) := by
  by_cases hk : k < js.length
  · have h1 : badJ (rd_T50 js k) = false := by
      rw [rd_T50_eq _ _ hk]
      have := List.any_eq_false.1 h js[k] (List.getElem_mem hk)
      simpa using this
    simp only [badJ, withinB, spanB, Bool.or_eq_false_iff, Bool.not_eq_false', Bool.and_eq_true, decide_eq_true_eq] at h1
    omega
  · have : rd_T50 js k = z50 := by
      unfold rd_T50
      rw [Int.toNat_natCast, List.getD_eq_getElem?_getD, List.getElem?_eq_none (by omega)]
      rfl
    rw [this]
    simp only [z50, z23]
    omega
/-- One end of a span, and the function that tells it. -/
def endE (d : Bool) (s : S23) : Int := if d then s.f1 else s.f0
def fnE (d : Bool) : Value := if d then fn72 else fn71
def govP (js : List S50) (j : Nat) (p : Int) : Int := if (rd_T50 js j).f3 = -1 then p else min p (rd_T50 js j).f3
def sumE (js : List S50) (d : Bool) (l : List Int) : Int := l.foldl (fun s x => s + endE d (rd_T50 js x).f0) 0
theorem sumE_snoc (js : List S50) (d : Bool) (l : List Int) (x : Int) : sumE js d (l ++ [x]) = sumE js d l + endE d (rd_T50 js x).f0 := by
  unfold sumE
  rw [List.foldl_append]
  rfl
theorem sumE_bd {js : List S50} (h : anyJ js = false) (d : Bool) (l : List Int) (hl : ∀ x ∈ l, 0 ≤ x) : 0 ≤ sumE js d l ∧ sumE js d l ≤ 1000000 * l.length := by
  have : ∀ (l : List Int) (s : Int), (∀ x ∈ l, 0 ≤ x) → s ≤ l.foldl (fun s x => s + endE d (rd_T50 js x).f0) s ∧ l.foldl (fun s x => s + endE d (rd_T50 js x).f0) s ≤ s + 1000000 * l.length := by
    intro l
    induction l with
    | nil => intro s _; simp
    | cons x l ih =>
      intro s hl
      have h1 := ih (s + endE d (rd_T50 js x).f0) (fun y hy => hl y (by simp [hy]))
      obtain ⟨k, rfl⟩ := Int.eq_ofNat_of_zero_le (hl x (by simp))
      have h2 := junction_ok h k
      have h3 : 0 ≤ endE d (rd_T50 js (k : Int)).f0 ∧ endE d (rd_T50 js (k : Int)).f0 ≤ 1000000 := by
        unfold endE
        cases d <;> simp <;> omega
      simp only [List.foldl_cons, List.length_cons]
      omega
  have := this l 0 hl
  unfold sumE
  omega
/-- The least, or the greatest, pressure at a junction, as the code reckons it: d, the ends of what is drawn are the greater ones. -/
def pressP (js : List S50) (ms : List S54) (d : Bool) (f : Nat → Bool) (src : Int) : Nat → Int
  | 0 => govP js 0 src
  | k + 1 => govP js (k + 1) (pressP js ms d f src (min (rd_T54 ms k).f0.toNat k) - (rd_T54 ms k).f1 * sumE js d (belowJ ms f (k + 1)))
termination_by j => j
decreasing_by omega
theorem belowL_nat (ms : List S54) (f : Nat → Bool) : ∀ (d j : Nat), ∀ x ∈ belowL ms f d j, 0 ≤ x
  | 0, j, x, h => by simp [belowL] at h
  | d + 1, j, x, h => by
    rw [belowL] at h
    split at h
    · rcases List.mem_cons.1 h with rfl | h
      · omega
      · obtain ⟨i, _, hi⟩ := List.mem_flatMap.1 h
        exact belowL_nat ms f d _ x hi
    · cases h
theorem flow_bd {js : List S50} {ms : List S54} (hj : anyJ js = false) (hm : anyM 0 ms = false) {f : Nat → Bool} (d : Bool) (k : Nat) (hk : k < ms.length) (hlen : (belowJ ms f (k + 1)).length ≤ 9) : 0 ≤ (rd_T54 ms k).f1 * sumE js d (belowJ ms f (k + 1)) ∧ (rd_T54 ms k).f1 * sumE js d (belowJ ms f (k + 1)) ≤ 9000000000 := by
  have h1 := mains_ok hm k hk
  have h2 := sumE_bd hj d (belowJ ms f (k + 1)) (belowL_nat ms f _ _)
  have h3 : sumE js d (belowJ ms f (k + 1)) ≤ 9000000 := by omega
  refine ⟨Int.mul_nonneg h1.2.1.1 h2.1, ?_⟩
  have := Int.mul_le_mul h1.2.1.2 h3 h2.1 (by omega)
  omega
theorem govP_bd {js : List S50} (hj : anyJ js = false) (j : Nat) {p a : Int} (h1 : a ≤ p) (h2 : p ≤ 1099511627776) (h3 : a ≤ 0) : a ≤ govP js j p ∧ govP js j p ≤ 1099511627776 := by
  have := junction_ok hj j
  unfold govP
  split <;> omega
theorem press_bd {js : List S50} {ms : List S54} (hj : anyJ js = false) (hm : anyM 0 ms = false) {f : Nat → Bool} (d : Bool) (hlen : ∀ j, j ≤ ms.length → (belowJ ms f j).length ≤ 9) {src : Int} (h1 : 0 ≤ src) (h2 : src ≤ 1099511627776) : ∀ j, j ≤ ms.length → -9000000000 * (j : Int) ≤ pressP js ms d f src j ∧ pressP js ms d f src j ≤ 1099511627776
  | 0, _ => by
    rw [pressP]
    have := govP_bd hj 0 (p := src) (a := 0) h1 h2 (by omega)
    omega
  | k + 1, hk => by
    rw [pressP]
    have h3 := flow_bd hj hm d k (by omega) (hlen (k + 1) hk)
    have h4 := press_bd hj hm d hlen h1 h2 (min (rd_T54 ms k).f0.toNat k) (by omega)
    refine govP_bd hj (k + 1) ?_ ?_ ?_ <;> omega
termination_by j => j
end Go.Proofs.Ytbjinkkmakhbaaa.Print
