/- Circulations: the cut condition, bounds, and fixing a flow (plain facts; no program in sight). -/
import Derived.Test.YtalgbihpidpblaaHI
namespace Go.Proofs.Ytalgbihpidpblaa.Print
open Go.RowKit Go.Shelf Go.Proofs.YtalgbihpidpblaaW.PrintWords Go.Proofs.YtalgbihpidpblaaW.PrintLast Go.Proofs.YtalgbihpidpblaaW.PrintMore
set_option linter.unusedVariables false
set_option linter.unusedSimpArgs false

/-- What a flow adds to a set's account: its least where it goes in, less its greatest where it goes out. -/
def ph (X : Int → Bool) (x : S47) : Int := if X x.f0 = X x.f1 then 0 else if X x.f1 = true then x.f2.f0 else - x.f2.f1
def phB (X : Int → Bool) (k : Int) (i : Int) (x : S47) : Int := if i = k then 0 else ph X x
def phi (X : Int → Bool) (l : List S47) : Int := sideSum (fun _ x => ph X x) 0 l
def phiBut (X : Int → Bool) (k : Int) (l : List S47) : Int := sideSum (phB X k) 0 l
/-- The cut condition. -/
def Cut (l : List S47) : Prop := ∀ X : Int → Bool, phi X l ≤ 0

theorem side_le (c d : Int → S47 → Int) (l : List S47) (h : ∀ i, ∀ x ∈ l, c i x ≤ d i x) : ∀ i, sideSum c i l ≤ sideSum d i l := by
  induction l with
  | nil => intro i; exact Int.le_refl _
  | cons y r ih =>
    intro i
    have h1 := h i y (by simp)
    have h2 := ih (fun i x hx => h i x (by simp [hx])) (i + 1)
    simp only [sideSum]
    omega
theorem side_add (c d : Int → S47 → Int) (l : List S47) : ∀ i, sideSum (fun i x => c i x + d i x) i l = sideSum c i l + sideSum d i l := by
  induction l with
  | nil => intro i; rfl
  | cons y r ih =>
    intro i
    simp only [sideSum]
    rw [ih (i + 1)]
    omega
theorem side_sub (c d : Int → S47 → Int) (l : List S47) : ∀ i, sideSum (fun i x => c i x - d i x) i l = sideSum c i l - sideSum d i l := by
  induction l with
  | nil => intro i; rfl
  | cons y r ih =>
    intro i
    simp only [sideSum]
    rw [ih (i + 1)]
    omega
theorem side_neg (c : Int → S47 → Int) (l : List S47) : ∀ i, sideSum (fun i x => - c i x) i l = - sideSum c i l := by
  induction l with
  | nil => intro i; rfl
  | cons y r ih =>
    intro i
    simp only [sideSum]
    rw [ih (i + 1)]
    omega
/-- A sum that looks at one index alone. -/
theorem side_only (k : Int) (f : S47 → Int) (l : List S47) : ∀ i, i ≤ k → k < i + l.length → sideSum (fun j x => if j = k then f x else 0) i l = f (rd_T47 l (k - i)) := by
  induction l with
  | nil => intro i h1 h2; simp at h2; omega
  | cons y r ih =>
    intro i h1 h2
    simp only [sideSum]
    by_cases e : i = k
    · rw [if_pos e]
      subst e
      have hz : ∀ (m : List S47) (j : Int), i < j → sideSum (fun j x => if j = i then f x else 0) j m = 0 := by
        intro m
        induction m with
        | nil => intro j _; rfl
        | cons z q iq =>
          intro j hj
          simp only [sideSum]
          rw [if_neg (by omega), iq (j + 1) (by omega)]
          rfl
      rw [hz r (i + 1) (by omega)]
      simp [rd_T47]
    · rw [if_neg e, ih (i + 1) (by omega) (by simp at h2; omega)]
      have : (k - i).toNat = (k - (i + 1)).toNat + 1 := by omega
      simp [rd_T47, this]

theorem phi_split (X : Int → Bool) (k : Int) (l : List S47) (h0 : 0 ≤ k) (h : k < l.length) : phi X l = phiBut X k l + ph X (rd_T47 l k) := by
  have h1 := side_only k (ph X) l 0 h0 (by omega)
  rw [Int.sub_zero] at h1
  rw [← h1]
  unfold phi phiBut
  rw [← side_add]
  refine side_eq _ _ l (fun i x _ => ?_) 0
  unfold phB
  by_cases e : i = k
  · rw [if_pos e, if_pos e]; omega
  · rw [if_neg e, if_neg e]; omega

/-- A flow fixed. -/
def fixL (l : List S47) (k : Int) (n : Int) : List S47 := l.set k.toNat { rd_T47 l k with f2 := ⟨n, n⟩ }
theorem fixL_length (l : List S47) (k n : Int) : (fixL l k n).length = l.length := by simp [fixL]

theorem side_set (c : Int → S47 → Int) (l : List S47) : ∀ (i : Int) (m : Nat) (x : S47), (∀ y, c (i + m) y = 0) → sideSum c i (l.set m x) = sideSum c i l := by
  induction l with
  | nil => intro i m x _; simp
  | cons y r ih =>
    intro i m x h
    cases m with
    | zero =>
      simp only [List.set_cons_zero, sideSum]
      have := h x
      have h2 := h y
      simp at this h2
      rw [this, h2]
    | succ m =>
      simp only [List.set_cons_succ, sideSum]
      rw [ih (i + 1) m x (fun y => by have := h y; rwa [show i + 1 + (m : Int) = i + ((m + 1 : Nat) : Int) from by omega])]

theorem rd_set_same (l : List S47) (k : Int) (x : S47) (h0 : 0 ≤ k) (h : k < l.length) : rd_T47 (l.set k.toNat x) k = x := by
  obtain ⟨m, rfl⟩ := Int.eq_ofNat_of_zero_le h0
  have hm : m < l.length := by omega
  simp [rd_T47, List.getD_eq_getElem?_getD, hm]
theorem rd_set_other (l : List S47) (k j : Int) (x : S47) (h0 : 0 ≤ k) (h0' : 0 ≤ j) (h : j ≠ k) : rd_T47 (l.set k.toNat x) j = rd_T47 l j := by
  obtain ⟨m, rfl⟩ := Int.eq_ofNat_of_zero_le h0
  obtain ⟨q, rfl⟩ := Int.eq_ofNat_of_zero_le h0'
  have hm : m ≠ q := by omega
  simp [rd_T47, List.getD_eq_getElem?_getD, List.getElem?_set, hm]

theorem phiBut_fix (X : Int → Bool) (k n : Int) (l : List S47) (h0 : 0 ≤ k) : phiBut X k (fixL l k n) = phiBut X k l := by
  unfold phiBut fixL
  refine side_set _ l 0 k.toNat _ (fun y => ?_)
  unfold phB
  rw [if_pos (by omega)]

theorem phi_fix (X : Int → Bool) (k n : Int) (l : List S47) (h0 : 0 ≤ k) (h : k < l.length) : phi X (fixL l k n) = phiBut X k l + ph X { rd_T47 l k with f2 := ⟨n, n⟩ } := by
  rw [phi_split X k _ h0 (by rw [fixL_length]; exact h), phiBut_fix X k n l h0]
  unfold fixL
  rw [rd_set_same l k _ h0 h]

/-- Two sets against each other, flow by flow. -/
theorem ph_cross (X Y : Int → Bool) (x : S47) (hx : x.f2.f0 ≤ x.f2.f1) : ph X x + ph Y x ≤ ph (fun p => X p && Y p) x + ph (fun p => X p || Y p) x := by
  simp only [ph]
  rcases Bool.eq_false_or_eq_true (X x.f0) with a | a <;> rcases Bool.eq_false_or_eq_true (X x.f1) with b | b <;> rcases Bool.eq_false_or_eq_true (Y x.f0) with c | c <;> rcases Bool.eq_false_or_eq_true (Y x.f1) with d | d <;> simp [a, b, c, d] <;> omega
theorem ph_cross_k (X Y : Int → Bool) (x : S47) (a : X x.f0 = true) (b : X x.f1 = false) (c : Y x.f0 = false) (d : Y x.f1 = true) : ph (fun p => X p && Y p) x + ph (fun p => X p || Y p) x = 0 := by
  unfold ph
  simp [a, b, c, d]

theorem cut_pair (l : List S47) (hl : ∀ x ∈ l, x.f2.f0 ≤ x.f2.f1) (hc : Cut l) (k : Int) (h0 : 0 ≤ k) (h : k < l.length) (X Y : Int → Bool)
    (a : X (rd_T47 l k).f0 = true) (b : X (rd_T47 l k).f1 = false) (c : Y (rd_T47 l k).f0 = false) (d : Y (rd_T47 l k).f1 = true) : phiBut X k l + phiBut Y k l ≤ 0 := by
  have h1 : phiBut X k l + phiBut Y k l ≤ phiBut (fun p => X p && Y p) k l + phiBut (fun p => X p || Y p) k l := by
    unfold phiBut
    rw [← side_add, ← side_add]
    refine side_le _ _ l (fun i x hx => ?_) 0
    unfold phB
    by_cases e : i = k
    · simp [e]
    · simp only [if_neg e]
      exact ph_cross X Y x (hl x hx)
  have h2 := phi_split (fun p => X p && Y p) k l h0 h
  have h3 := phi_split (fun p => X p || Y p) k l h0 h
  have h4 := ph_cross_k X Y (rd_T47 l k) a b c d
  have h5 := hc (fun p => X p && Y p)
  have h6 := hc (fun p => X p || Y p)
  omega

/-- Fixing a flow within its bounds keeps the cut condition. -/
theorem cut_fix (l : List S47) (hc : Cut l) (k n : Int) (h0 : 0 ≤ k) (h : k < l.length)
    (hlo : ∀ X : Int → Bool, X (rd_T47 l k).f0 = true → X (rd_T47 l k).f1 = false → phiBut X k l ≤ n)
    (hhi : ∀ X : Int → Bool, X (rd_T47 l k).f0 = false → X (rd_T47 l k).f1 = true → phiBut X k l ≤ - n) : Cut (fixL l k n) := by
  intro X
  rw [phi_fix X k n l h0 h]
  have h1 := phi_split X k l h0 h
  have h2 := hc X
  cases a : X (rd_T47 l k).f0 <;> cases b : X (rd_T47 l k).f1
  · simp only [ph, a, b, if_true] at h1 ⊢; omega
  · have := hhi X a b
    simp [ph, a, b]; omega
  · have := hlo X a b
    simp [ph, a, b]; omega
  · simp only [ph, a, b, if_true] at h1 ⊢; omega
end Go.Proofs.Ytalgbihpidpblaa.Print
