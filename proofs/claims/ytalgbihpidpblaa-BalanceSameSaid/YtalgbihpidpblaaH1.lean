/- Contracts, proved by hand, of the plant's check (isPlant, its closure, slices.ContainsFunc and IndexFunc at it). -/
import Derived.Test.YtalgbihpidpblaaPrint2
namespace Go.Proofs.Ytalgbihpidpblaa.Print
open Go.RowKit Go.Proofs.YtalgbihpidpblaaW.PrintWords Go.Proofs.YtalgbihpidpblaaW.PrintLast Go.Proofs.YtalgbihpidpblaaW.PrintMore
set_option linter.unusedVariables false
set_option linter.unusedSimpArgs false

def withinB (n low high : Int) : Bool := decide (low ≤ n) && decide (n ≤ high)

set_option maxHeartbeats 400000 in
theorem within_any (n low high : Int) (w : World) :
    Calls Try.prog 31 #[.int .i64 n, .int .i64 low, .int .i64 high] w fun e w' => e = .returned (.bool (withinB n low high)) ∧ w' = w := by
  by_cases h : low ≤ n
  · have hb : decide (low ≤ n) = true := by simpa using h
    have hw : withinB n low high = decide (n ≤ high) := by simp [withinB, h]
    rw [hw]; clear hw h
    go_enter Try.func31, Try.ntmps31
    go_wp2
    go_ret
    exact ⟨rfl, rfl⟩
  · have hb : decide (low ≤ n) = false := by simpa using h
    have hw : withinB n low high = false := by simp [withinB, h]
    rw [hw]; clear hw h
    go_enter Try.func31, Try.ntmps31
    go_wp2
    go_ret
    exact ⟨rfl, rfl⟩

/-- What isPlant's closure says of a flow. -/
def badB (pl f t lo hi : Int) : Bool :=
  !(withinB f 0 (pl - 1) && withinB t 0 (pl - 1) && (f != t)) || !withinB hi 0 1073741824 || !withinB lo 0 hi

set_option maxHeartbeats 1000000 in
theorem bad_any (pl f t lo hi : Int) (B : Nat) (w : World) (h2 : 2 ≤ pl) (h8 : pl ≤ 8) (hB : B < w.heap.size) (hc : w.cell? ⟨B, 0, none⟩ = some (.int .i64 pl)) :
    Calls Try.prog 54 #[.agg #[.int .i64 f, .int .i64 t, .int .i64 lo, .int .i64 hi], .pointer (some ⟨B, 0, none⟩)] w fun e w' => e = .returned (.bool (badB pl f t lo hi)) ∧ Below w.heap.size w w' := by
  unfold badB
  by_cases h1 : withinB f 0 (pl - 1) = true
  · by_cases h2 : withinB t 0 (pl - 1) = true
    · by_cases h3 : f = t
      · have h3' : (f != t) = false := by simp [h3]
        have h3'' : (f == t) = true := by simp [h3]
        clear h3
        go_enter Try.func54, Try.ntmps54
        go_wp2_with (go_at_call 31; refine (within_any _ _ _ _).mono ?_; rintro e w' ⟨rfl, rfl⟩)
        go_ret
        exact ⟨by first | (simp [*]; done) | (simp_all; done), (Below.refl _ _).alloc (Nat.le_refl _) _⟩
      · have h3' : (f != t) = true := by simp [h3]
        have h3'' : (f == t) = false := by simp [h3]
        clear h3
        by_cases h4 : withinB hi 0 1073741824 = true
        · by_cases h5 : withinB lo 0 hi = true
          · skip
            go_enter Try.func54, Try.ntmps54
            go_wp2_with (go_at_call 31; refine (within_any _ _ _ _).mono ?_; rintro e w' ⟨rfl, rfl⟩)
            go_ret
            exact ⟨by first | (simp [*]; done) | (simp_all; done), (Below.refl _ _).alloc (Nat.le_refl _) _⟩
          · have h5' : withinB lo 0 hi = false := by simpa using h5
            clear h5
            go_enter Try.func54, Try.ntmps54
            go_wp2_with (go_at_call 31; refine (within_any _ _ _ _).mono ?_; rintro e w' ⟨rfl, rfl⟩)
            go_ret
            exact ⟨by first | (simp [*]; done) | (simp_all; done), (Below.refl _ _).alloc (Nat.le_refl _) _⟩
        · have h4' : withinB hi 0 1073741824 = false := by simpa using h4
          clear h4
          go_enter Try.func54, Try.ntmps54
          go_wp2_with (go_at_call 31; refine (within_any _ _ _ _).mono ?_; rintro e w' ⟨rfl, rfl⟩)
          go_ret
          exact ⟨by first | (simp [*]; done) | (simp_all; done), (Below.refl _ _).alloc (Nat.le_refl _) _⟩
    · have h2' : withinB t 0 (pl - 1) = false := by simpa using h2
      clear h2
      go_enter Try.func54, Try.ntmps54
      go_wp2_with (go_at_call 31; refine (within_any _ _ _ _).mono ?_; rintro e w' ⟨rfl, rfl⟩)
      go_ret
      exact ⟨by first | (simp [*]; done) | (simp_all; done), (Below.refl _ _).alloc (Nat.le_refl _) _⟩
  · have h1' : withinB f 0 (pl - 1) = false := by simpa using h1
    clear h1
    go_enter Try.func54, Try.ntmps54
    go_wp2_with (go_at_call 31; refine (within_any _ _ _ _).mono ?_; rintro e w' ⟨rfl, rfl⟩)
    go_ret
    exact ⟨by first | (simp [*]; done) | (simp_all; done), (Below.refl _ _).alloc (Nat.le_refl _) _⟩

/-- Of a list of flows, is any bad? -/
def anyBad (pl : Int) (l : List S47) : Bool := l.any fun x => badB pl x.f0 x.f1 x.f2.f0 x.f2.f1

theorem rd_T45_eq (xs : List S47) (i : Nat) (h : i < xs.length) : rd_T47 xs i = xs[i] := by
  simp [rd_T47, List.getD_eq_getElem?_getD, h]

theorem any_take_snoc (pl : Int) (l : List S47) (k : Int) (h0 : 0 ≤ k) (h : k < l.length) : anyBad pl (l.take (k + 1).toNat) = (anyBad pl (l.take k.toNat) || badB pl (rd_T47 l k).f0 (rd_T47 l k).f1 (rd_T47 l k).f2.f0 (rd_T47 l k).f2.f1) := by
  obtain ⟨n, rfl⟩ := Int.eq_ofNat_of_zero_le h0
  have hn : n < l.length := by omega
  rw [show ((n : Int) + 1).toNat = n + 1 from by omega, Int.toNat_natCast]
  unfold anyBad
  rw [List.take_succ_eq_append_getElem hn, rd_T45_eq _ _ hn]
  simp only [List.any_append, List.any_cons, List.any_nil, Bool.or_false]

theorem any_take_true (pl : Int) (l : List S47) (k : Nat) (h : anyBad pl (l.take k) = true) : anyBad pl l = true := by
  unfold anyBad at *
  rw [List.any_eq_true] at *
  obtain ⟨x, hx, h⟩ := h
  exact ⟨x, List.mem_of_mem_take hx, h⟩

set_option maxHeartbeats 1000000 in
theorem index_bad (pl : Int) (B : Nat) (A : Option Addr) (c : Nat) (l : List S47) (w : World) (h2 : 2 ≤ pl) (h8 : pl ≤ 8) (hB : B < w.heap.size) (hc : w.cell? ⟨B, 0, none⟩ = some (.int .i64 pl))
    (hr : Kd.C k47 w A l.length l) (hcc : l.length ≤ c) (hl : l.length ≤ 16) :
    Calls Try.prog 57 #[.slice A l.length c, .func (.func 54) #[] #[.pointer (some ⟨B, 0, none⟩)]] w fun e w' => (∃ i : Int, e = .returned (.int .i64 i) ∧ (decide (0 ≤ i) = anyBad pl l)) ∧ Below w.heap.size w w' := by
  have HR := Aside0.mk hr
  clear hr
  have HC := Aside0.mk hc
  clear hc
  go_enter Try.func57, Try.ntmps57
  go_wp2_with (fail)
  go_loopw [8] (fun i wr => ∃ k : Int, i = .int .i64 k ∧ 0 ≤ k ∧ k ≤ l.length ∧ Aside0 (anyBad pl (l.take k.toNat) = false) ∧ Aside0 (Below w.heap.size w wr)) (fun i _ => l.length - (intOf i).toNat)
  case atStart => exact ⟨0, rfl, by omega, by omega, ⟨by simp [anyBad]⟩, ⟨Below.refl _ _⟩⟩
  case round =>
    obtain ⟨k, rfl, hk0, hk, HA, HB⟩ := hrel
    by_cases hlt : k < l.length
    · have hlt' : decide (k < l.length) = true := decide_eq_true hlt
      obtain ⟨ad, e, g0, g1, g2, g3⟩ := at_T47 (Kd.C_below HR.out HB.out) k hk0 hlt
      cases e
      have HS := Aside0.mk (any_take_snoc pl l k hk0 hlt)
      have hcw : wr.cell? ⟨B, 0, none⟩ = some (.int .i64 pl) := (HB.out.cell (p := ⟨B, 0, none⟩) hB).trans HC.out
      have hBw : B < wr.heap.size := Nat.lt_of_lt_of_le hB HB.out.size
      go_wp2_with (go_at_call 54; refine (bad_any _ _ _ _ _ _ _ h2 h8 hBw hcw).mono ?_; rintro e w' ⟨rfl, hb⟩)
      · have hbad : badB pl (rd_T47 l k).f0 (rd_T47 l k).f1 (rd_T47 l k).f2.f0 (rd_T47 l k).f2.f1 = true := by assumption
        go_ret
        refine ⟨⟨k, rfl, ?_⟩, HB.out.trans (hb.mono (HB.out.size))⟩
        rw [any_take_true pl l (k + 1).toNat (by rw [HS.out, hbad]; simp)]
        simpa using hk0
      · have hbad : badB pl (rd_T47 l k).f0 (rd_T47 l k).f1 (rd_T47 l k).f2.f0 (rd_T47 l k).f2.f1 = false := by
          first | assumption | (have hh := ‹¬ (badB pl (rd_T47 l k).f0 (rd_T47 l k).f1 (rd_T47 l k).f2.f0 (rd_T47 l k).f2.f1 = true)›; simpa using hh)
        go_roundw
        case rel => exact ⟨k + 1, rfl, by omega, by omega, ⟨by rw [HS.out, HA.out, hbad]; rfl⟩, ⟨HB.out.trans (hb.mono HB.out.size)⟩⟩
        case measure => simp [intOf]; omega
    · have hlt' : decide (k < l.length) = false := decide_eq_false hlt
      go_wp2_with (fail)
      go_ret
      refine ⟨⟨-1, rfl, ?_⟩, HB.out⟩
      have e : k.toNat = l.length := by omega
      have hA := HA.out
      rw [e, List.take_length] at hA
      rw [hA]
      rfl

/-- A plant's check. -/
def isPlantB (pl : Int) (l : List S47) : Bool := withinB pl 2 8 && decide (l.length ≤ 16) && !anyBad pl l

set_option maxHeartbeats 1000000 in
theorem contains_bad (pl : Int) (B : Nat) (A : Option Addr) (c : Nat) (l : List S47) (w : World) (h2 : 2 ≤ pl) (h8 : pl ≤ 8) (hB : B < w.heap.size) (hc : w.cell? ⟨B, 0, none⟩ = some (.int .i64 pl))
    (hr : Kd.C k47 w A l.length l) (hcc : l.length ≤ c) (hl : l.length ≤ 16) :
    Calls Try.prog 55 #[.slice A l.length c, .func (.func 54) #[] #[.pointer (some ⟨B, 0, none⟩)]] w fun e w' => e = .returned (.bool (anyBad pl l)) ∧ Below w.heap.size w w' := by
  have HR := Aside0.mk hr
  clear hr
  have HC := Aside0.mk hc
  clear hc
  go_enter Try.func55, Try.ntmps55
  go_wp2_with (go_at_call 57; refine (index_bad _ _ _ _ _ _ h2 h8 hB HC.out HR.out hcc hl).mono ?_; rintro e w' ⟨⟨i, rfl, hi⟩, hb⟩)
  go_ret
  exact ⟨rfl, hb⟩

def balance_isPlant.f (a0_0 : Int) (l0_1 : List (S47)) : Option (Bool) := some (isPlantB a0_0 l0_1)

set_option maxHeartbeats 1000000 in
theorem balance_isPlant.calls (a0_0 : Int) (A0_1 : Option Addr) (c0_1 : Nat) (l0_1 : List (S47)) (r : Bool) (w : World) (hr0_1 : Kd.C k47 w A0_1 l0_1.length l0_1) (hc0_1 : l0_1.length ≤ c0_1) (h : balance_isPlant.f a0_0 l0_1 = some r) :
    Calls Try.prog 40 #[.agg #[.int .i64 a0_0, .slice A0_1 l0_1.length c0_1]] w fun e w' => e = .returned (.bool r) ∧ Below w.heap.size w w' := by
  obtain rfl : isPlantB a0_0 l0_1 = r := by simpa [balance_isPlant.f] using h
  clear h
  unfold isPlantB
  have HR := Aside0.mk hr0_1
  clear hr0_1
  by_cases h1 : withinB a0_0 2 8 = true
  · by_cases h2 : l0_1.length ≤ 16
    · have g1 : decide (l0_1.length ≤ 16) = true := decide_eq_true h2
      have g2 : decide ((l0_1.length : Int) ≤ 16) = true := decide_eq_true (by omega)
      have b1 : 2 ≤ a0_0 := by simp [withinB] at h1; omega
      have b2 : a0_0 ≤ 8 := by simp [withinB] at h1; omega
      go_enter Try.func40, Try.ntmps40
      go_wp2_with (first | (go_at_call 31; refine (within_any _ _ _ _).mono ?_; rintro e w' ⟨rfl, rfl⟩) | (go_at_call 55; refine (contains_bad _ _ _ _ _ _ b1 b2 (by simp) (by go_simp) (Kd.C_below HR.out ((Below.refl _ _).alloc (Nat.le_refl _) _)) hc0_1 h2).mono ?_; rintro e w' ⟨rfl, hb⟩))
      go_ret
      exact ⟨by first | (simp [*]; done) | (simp_all; done), ((Below.refl _ _).alloc (Nat.le_refl _) _).trans (hb.mono (by simp))⟩
    · have g1 : decide (l0_1.length ≤ 16) = false := decide_eq_false h2
      have g2 : decide ((l0_1.length : Int) ≤ 16) = false := decide_eq_false (by omega)
      go_enter Try.func40, Try.ntmps40
      go_wp2_with (go_at_call 31; refine (within_any _ _ _ _).mono ?_; rintro e w' ⟨rfl, rfl⟩)
      go_ret
      exact ⟨by first | (simp [*]; done) | (simp_all; done), (Below.refl _ _).alloc (Nat.le_refl _) _⟩
  · have h1' : withinB a0_0 2 8 = false := by simpa using h1
    clear h1
    go_enter Try.func40, Try.ntmps40
    go_wp2_with (go_at_call 31; refine (within_any _ _ _ _).mono ?_; rintro e w' ⟨rfl, rfl⟩)
    go_ret
    exact ⟨by first | (simp [*]; done) | (simp_all; done), (Below.refl _ _).alloc (Nat.le_refl _) _⟩
end Go.Proofs.Ytalgbihpidpblaa.Print

namespace Go.Proofs.Ytalgbihpidpblaa.Print
open Go.RowKit Go.Proofs.YtalgbihpidpblaaW.PrintWords Go.Proofs.YtalgbihpidpblaaW.PrintLast Go.Proofs.YtalgbihpidpblaaW.PrintMore
set_option linter.unusedVariables false
set_option linter.unusedSimpArgs false

/-- Is a place in a set? -/
def hasB (s p : Int) : Bool := (Go.bits .and .u64 (shr .u64 s p) 1) == 1

set_option maxHeartbeats 400000 in
theorem has_any (s p : Int) (w : World) (h0 : 0 ≤ p) :
    Calls Try.prog 50 #[.int .u64 s, .int .i64 p] w fun e w' => e = .returned (.bool (hasB s p)) ∧ w' = w := by
  unfold hasB
  go_enter Try.func50, Try.ntmps50
  go_wp2
  go_ret
  exact ⟨rfl, rfl⟩

/-- What a flow adds to a side of a set. -/
def contrib (s but : Int) (side hi : Bool) (i : Int) (x : S47) : Int :=
  if i = but ∨ hasB s x.f0 = hasB s x.f1 ∨ hasB s x.f0 ≠ side then 0 else if hi then x.f2.f1 else x.f2.f0

def sideSum (c : Int → S47 → Int) : Int → List S47 → Int
  | _, [] => 0
  | i, x :: r => c i x + sideSum c (i + 1) r

theorem sideSum_append (c : Int → S47 → Int) (l : List S47) : ∀ (i : Int) (x : S47), sideSum c i (l ++ [x]) = sideSum c i l + c (i + l.length) x := by
  induction l with
  | nil => intro i x; simp [sideSum]
  | cons y r ih => intro i x; simp only [List.cons_append, sideSum, ih, List.length_cons]; rw [show i + 1 + (r.length : Int) = i + ((r.length + 1 : Nat) : Int) from by omega]; omega

def tot (s but : Int) (side hi : Bool) (l : List S47) (k : Int) : Int := sideSum (contrib s but side hi) 0 (l.take k.toNat)
def total (s but : Int) (side hi : Bool) (l : List S47) : Int := sideSum (contrib s but side hi) 0 l

theorem tot_succ (s but : Int) (side hi : Bool) (l : List S47) (k : Int) (h0 : 0 ≤ k) (h : k < l.length) :
    tot s but side hi l (k + 1) = tot s but side hi l k + contrib s but side hi k (rd_T47 l k) := by
  obtain ⟨n, rfl⟩ := Int.eq_ofNat_of_zero_le h0
  have hn : n < l.length := by omega
  unfold tot
  rw [show ((n : Int) + 1).toNat = n + 1 from by omega, Int.toNat_natCast, List.take_succ_eq_append_getElem hn, rd_T45_eq _ _ hn, sideSum_append]
  simp only [List.length_take, Nat.min_eq_left (Nat.le_of_lt hn), Int.zero_add]

theorem tot_all (s but : Int) (side hi : Bool) (l : List S47) (k : Int) (h : k = l.length) : tot s but side hi l k = total s but side hi l := by
  unfold tot total
  rw [List.take_of_length_le (by omega)]

/-- A flow of a valid plant. -/
def goodF (pl : Int) (x : S47) : Prop := 0 ≤ x.f0 ∧ x.f0 < pl ∧ 0 ≤ x.f1 ∧ x.f1 < pl ∧ x.f0 ≠ x.f1 ∧ 0 ≤ x.f2.f0 ∧ x.f2.f0 ≤ x.f2.f1 ∧ x.f2.f1 ≤ 1073741824

theorem good_of (pl : Int) (l : List S47) (h : anyBad pl l = false) : ∀ x ∈ l, goodF pl x := by
  intro x hx
  unfold anyBad at h
  rw [List.any_eq_false] at h
  have := h x hx
  simp [badB, withinB] at this
  unfold goodF
  omega

theorem plant_of (pl : Int) (l : List S47) (h : isPlantB pl l = true) : 2 ≤ pl ∧ pl ≤ 8 ∧ l.length ≤ 16 ∧ ∀ x ∈ l, goodF pl x := by
  simp only [isPlantB, Bool.and_eq_true, withinB, decide_eq_true_eq, Bool.not_eq_true'] at h
  exact ⟨h.1.1.1, h.1.1.2, h.1.2, good_of pl l h.2⟩

theorem contrib_bound (s but : Int) (side hi : Bool) (i pl : Int) (x : S47) (h : goodF pl x) : 0 ≤ contrib s but side hi i x ∧ contrib s but side hi i x ≤ 1073741824 := by
  unfold goodF at h
  unfold contrib
  split
  · omega
  · split <;> omega

theorem sideSum_bound (c : Int → S47 → Int) (l : List S47) (M : Int) (h : ∀ i, ∀ x ∈ l, 0 ≤ c i x ∧ c i x ≤ M) : ∀ i, 0 ≤ sideSum c i l ∧ sideSum c i l ≤ l.length * M := by
  induction l with
  | nil => intro i; simp [sideSum]
  | cons y r ih =>
    intro i
    have a := h i y (by simp)
    have b := ih (fun i x hx => h i x (by simp [hx])) (i + 1)
    simp only [sideSum, List.length_cons]
    rw [show ((r.length + 1 : Nat) : Int) * M = (r.length : Int) * M + M from by rw [Int.natCast_add, Int.add_mul]; simp]
    omega

theorem tot_bound (s but : Int) (side hi : Bool) (pl : Int) (l : List S47) (k : Int) (hl : l.length ≤ 16) (hg : ∀ x ∈ l, goodF pl x) : 0 ≤ tot s but side hi l k ∧ tot s but side hi l k ≤ 17179869184 := by
  have := sideSum_bound (contrib s but side hi) (l.take k.toNat) 1073741824 (fun i x hx => contrib_bound s but side hi i pl x (hg x (List.mem_of_mem_take hx))) 0
  have h2 : (l.take k.toNat).length ≤ 16 := by rw [List.length_take]; omega
  unfold tot
  omega

end Go.Proofs.Ytalgbihpidpblaa.Print
