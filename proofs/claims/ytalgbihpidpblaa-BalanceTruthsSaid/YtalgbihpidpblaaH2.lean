/- Contracts, proved by hand: what goes into a set of places and out of it (sidesOf). -/
import Derived.Test.YtalgbihpidpblaaH1
namespace Go.Proofs.Ytalgbihpidpblaa.Print
open Go.RowKit Go.Proofs.YtalgbihpidpblaaW.PrintWords Go.Proofs.YtalgbihpidpblaaW.PrintLast Go.Proofs.YtalgbihpidpblaaW.PrintMore
set_option linter.unusedVariables false
set_option linter.unusedSimpArgs false

/-- Is a place in a set? -/
def hasB (s p : Int) : Bool := (Go.bits .and .u64 (shr .u64 s p) 1) == 1

set_option maxHeartbeats 400000 in
theorem has_any (s p : Int) (w : World) (h0 : 0 ≤ p) :
    Calls Try.prog 50 #[.int .u64 s, .int .i64 p] w fun e w' => e = .returned (.bool (hasB s p)) ∧ w' = w := by
  unfold hasB
  go_enter Try.func50, Try.ntmps50
  go_wp2
  go_ret
  exact ⟨rfl, rfl⟩

/-- What a flow adds to a side of a set. -/
def contrib (s but : Int) (side hi : Bool) (i : Int) (x : S47) : Int :=
  if i = but ∨ hasB s x.f0 = hasB s x.f1 ∨ hasB s x.f0 ≠ side then 0 else if hi then x.f2.f1 else x.f2.f0

def sideSum (c : Int → S47 → Int) : Int → List S47 → Int
  | _, [] => 0
  | i, x :: r => c i x + sideSum c (i + 1) r

theorem sideSum_append (c : Int → S47 → Int) (l : List S47) : ∀ (i : Int) (x : S47), sideSum c i (l ++ [x]) = sideSum c i l + c (i + l.length) x := by
  induction l with
  | nil => intro i x; simp [sideSum]
  | cons y r ih => intro i x; simp only [List.cons_append, sideSum, ih, List.length_cons]; rw [show i + 1 + (r.length : Int) = i + ((r.length + 1 : Nat) : Int) from by omega]; omega

def tot (s but : Int) (side hi : Bool) (l : List S47) (k : Int) : Int := sideSum (contrib s but side hi) 0 (l.take k.toNat)
def total (s but : Int) (side hi : Bool) (l : List S47) : Int := sideSum (contrib s but side hi) 0 l

theorem tot_succ (s but : Int) (side hi : Bool) (l : List S47) (k : Int) (h0 : 0 ≤ k) (h : k < l.length) :
    tot s but side hi l (k + 1) = tot s but side hi l k + contrib s but side hi k (rd_T47 l k) := by
  obtain ⟨n, rfl⟩ := Int.eq_ofNat_of_zero_le h0
  have hn : n < l.length := by omega
  unfold tot
  rw [show ((n : Int) + 1).toNat = n + 1 from by omega, Int.toNat_natCast, List.take_succ_eq_append_getElem hn, rd_T45_eq _ _ hn, sideSum_append]
  simp only [List.length_take, Nat.min_eq_left (Nat.le_of_lt hn), Int.zero_add]

theorem tot_all (s but : Int) (side hi : Bool) (l : List S47) (k : Int) (h : k = l.length) : tot s but side hi l k = total s but side hi l := by
  unfold tot total
  rw [List.take_of_length_le (by omega)]

/-- A flow of a valid plant. -/
def goodF (pl : Int) (x : S47) : Prop := 0 ≤ x.f0 ∧ x.f0 < pl ∧ 0 ≤ x.f1 ∧ x.f1 < pl ∧ x.f0 ≠ x.f1 ∧ 0 ≤ x.f2.f0 ∧ x.f2.f0 ≤ x.f2.f1 ∧ x.f2.f1 ≤ 1073741824

theorem good_of (pl : Int) (l : List S47) (h : anyBad pl l = false) : ∀ x ∈ l, goodF pl x := by
  intro x hx
  unfold anyBad at h
  rw [List.any_eq_false] at h
  have := h x hx
  simp [badB, withinB] at this
  unfold goodF
  omega

theorem plant_of (pl : Int) (l : List S47) (h : isPlantB pl l = true) : 2 ≤ pl ∧ pl ≤ 8 ∧ l.length ≤ 16 ∧ ∀ x ∈ l, goodF pl x := by
  simp only [isPlantB, Bool.and_eq_true, withinB, decide_eq_true_eq, Bool.not_eq_true'] at h
  exact ⟨h.1.1.1, h.1.1.2, h.1.2, good_of pl l h.2⟩

theorem contrib_bound (s but : Int) (side hi : Bool) (i pl : Int) (x : S47) (h : goodF pl x) : 0 ≤ contrib s but side hi i x ∧ contrib s but side hi i x ≤ 1073741824 := by
  unfold goodF at h
  unfold contrib
  split
  · omega
  · split <;> omega

theorem sideSum_bound (c : Int → S47 → Int) (l : List S47) (M : Int) (h : ∀ i, ∀ x ∈ l, 0 ≤ c i x ∧ c i x ≤ M) : ∀ i, 0 ≤ sideSum c i l ∧ sideSum c i l ≤ l.length * M := by
  induction l with
  | nil => intro i; simp [sideSum]
  | cons y r ih =>
    intro i
    have a := h i y (by simp)
    have b := ih (fun i x hx => h i x (by simp [hx])) (i + 1)
    simp only [sideSum, List.length_cons]
    rw [show ((r.length + 1 : Nat) : Int) * M = (r.length : Int) * M + M from by rw [Int.natCast_add, Int.add_mul]; simp]
    omega

theorem tot_bound (s but : Int) (side hi : Bool) (pl : Int) (l : List S47) (k : Int) (hl : l.length ≤ 16) (hg : ∀ x ∈ l, goodF pl x) : 0 ≤ tot s but side hi l k ∧ tot s but side hi l k ≤ 17179869184 := by
  have := sideSum_bound (contrib s but side hi) (l.take k.toNat) 1073741824 (fun i x hx => contrib_bound s but side hi i pl x (hg x (List.mem_of_mem_take hx))) 0
  have h2 : (l.take k.toNat).length ≤ 16 := by rw [List.length_take]; omega
  unfold tot
  omega

end Go.Proofs.Ytalgbihpidpblaa.Print
