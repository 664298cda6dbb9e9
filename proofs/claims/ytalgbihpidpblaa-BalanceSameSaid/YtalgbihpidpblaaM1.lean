/- Circulations: the cut condition, bounds, and fixing a flow (plain facts; no program in sight). -/
import Derived.Test.YtalgbihpidpblaaHI
import Derived.Test.YtalgbihpidpblaaHD
namespace Go.Proofs.Ytalgbihpidpblaa.Print
open Go.RowKit Go.Shelf Go.Proofs.YtalgbihpidpblaaW.PrintWords Go.Proofs.YtalgbihpidpblaaW.PrintLast Go.Proofs.YtalgbihpidpblaaW.PrintMore
set_option linter.unusedVariables false
set_option linter.unusedSimpArgs false

/-- What a flow adds to a set's account: its least where it goes in, less its greatest where it goes out. -/
def ph (X : Int → Bool) (x : S47) : Int := if X x.f0 = X x.f1 then 0 else if X x.f1 = true then x.f2.f0 else - x.f2.f1
def phB (X : Int → Bool) (k : Int) (i : Int) (x : S47) : Int := if i = k then 0 else ph X x
def phi (X : Int → Bool) (l : List S47) : Int := sideSum (fun _ x => ph X x) 0 l
def phiBut (X : Int → Bool) (k : Int) (l : List S47) : Int := sideSum (phB X k) 0 l
/-- The cut condition. -/
def Cut (l : List S47) : Prop := ∀ X : Int → Bool, phi X l ≤ 0

theorem side_le (c d : Int → S47 → Int) (l : List S47) (h : ∀ i, ∀ x ∈ l, c i x ≤ d i x) : ∀ i, sideSum c i l ≤ sideSum d i l := by
  induction l with
  | nil => intro i; exact Int.le_refl _
  | cons y r ih =>
    intro i
    have h1 := h i y (by simp)
    have h2 := ih (fun i x hx => h i x (by simp [hx])) (i + 1)
    simp only [sideSum]
    omega
theorem side_add (c d : Int → S47 → Int) (l : List S47) : ∀ i, sideSum (fun i x => c i x + d i x) i l = sideSum c i l + sideSum d i l := by
  induction l with
  | nil => intro i; rfl
  | cons y r ih =>
    intro i
    simp only [sideSum]
    rw [ih (i + 1)]
    omega
theorem side_sub (c d : Int → S47 → Int) (l : List S47) : ∀ i, sideSum (fun i x => c i x - d i x) i l = sideSum c i l - sideSum d i l := by
  induction l with
  | nil => intro i; rfl
  | cons y r ih =>
    intro i
    simp only [sideSum]
    rw [ih (i + 1)]
    omega
theorem side_neg (c : Int → S47 → Int) (l : List S47) : ∀ i, sideSum (fun i x => - c i x) i l = - sideSum c i l := by
  induction l with
  | nil => intro i; rfl
  | cons y r ih =>
    intro i
    simp only [sideSum]
    rw [ih (i + 1)]
    omega
/-- A sum that looks at one index alone. -/
theorem side_only (k : Int) (f : S47 → Int) (l : List S47) : ∀ i, i ≤ k → k < i + l.length → sideSum (fun j x => if j = k then f x else 0) i l = f (rd_T47 l (k - i)) := by
  induction l with
  | nil => intro i h1 h2; simp at h2; omega
  | cons y r ih =>
    intro i h1 h2
    simp only [sideSum]
    by_cases e : i = k
    · rw [if_pos e]
      subst e
      have hz : ∀ (m : List S47) (j : Int), i < j → sideSum (fun j x => if j = i then f x else 0) j m = 0 := by
        intro m
        induction m with
        | nil => intro j _; rfl
        | cons z q iq =>
          intro j hj
          simp only [sideSum]
          rw [if_neg (by omega), iq (j + 1) (by omega)]
          rfl
      rw [hz r (i + 1) (by omega)]
      simp [rd_T47]
    · rw [if_neg e, ih (i + 1) (by omega) (by simp at h2; omega)]
      have : (k - i).toNat = (k - (i + 1)).toNat + 1 := by omega
      simp [rd_T47, this]

theorem phi_split (X : Int → Bool) (k : Int) (l : List S47) (h0 : 0 ≤ k) (h : k < l.length) : phi X l = phiBut X k l + ph X (rd_T47 l k) := by
  have h1 := side_only k (ph X) l 0 h0 (by omega)
  rw [Int.sub_zero] at h1
  rw [← h1]
  unfold phi phiBut
  rw [← side_add]
  refine side_eq _ _ l (fun i x _ => ?_) 0
  unfold phB
  by_cases e : i = k
  · rw [if_pos e, if_pos e]; omega
  · rw [if_neg e, if_neg e]; omega

/-- A flow fixed. -/
def fixL (l : List S47) (k : Int) (n : Int) : List S47 := l.set k.toNat { rd_T47 l k with f2 := ⟨n, n⟩ }
theorem fixL_length (l : List S47) (k n : Int) : (fixL l k n).length = l.length := by simp [fixL]

theorem side_set (c : Int → S47 → Int) (l : List S47) : ∀ (i : Int) (m : Nat) (x : S47), (∀ y, c (i + m) y = 0) → sideSum c i (l.set m x) = sideSum c i l := by
  induction l with
  | nil => intro i m x _; simp
  | cons y r ih =>
    intro i m x h
    cases m with
    | zero =>
      simp only [List.set_cons_zero, sideSum]
      have := h x
      have h2 := h y
      simp at this h2
      rw [this, h2]
    | succ m =>
      simp only [List.set_cons_succ, sideSum]
      rw [ih (i + 1) m x (fun y => by have := h y; rwa [show i + 1 + (m : Int) = i + ((m + 1 : Nat) : Int) from by omega])]

theorem rd_set_same (l : List S47) (k : Int) (x : S47) (h0 : 0 ≤ k) (h : k < l.length) : rd_T47 (l.set k.toNat x) k = x := by
  obtain ⟨m, rfl⟩ := Int.eq_ofNat_of_zero_le h0
  have hm : m < l.length := by omega
  simp [rd_T47, List.getD_eq_getElem?_getD, hm]
theorem rd_set_other (l : List S47) (k j : Int) (x : S47) (h0 : 0 ≤ k) (h0' : 0 ≤ j) (h : j ≠ k) : rd_T47 (l.set k.toNat x) j = rd_T47 l j := by
  obtain ⟨m, rfl⟩ := Int.eq_ofNat_of_zero_le h0
  obtain ⟨q, rfl⟩ := Int.eq_ofNat_of_zero_le h0'
  have hm : m ≠ q := by omega
  simp [rd_T47, List.getD_eq_getElem?_getD, List.getElem?_set, hm]

theorem phiBut_fix (X : Int → Bool) (k n : Int) (l : List S47) (h0 : 0 ≤ k) : phiBut X k (fixL l k n) = phiBut X k l := by
  unfold phiBut fixL
  refine side_set _ l 0 k.toNat _ (fun y => ?_)
  unfold phB
  rw [if_pos (by omega)]

theorem phi_fix (X : Int → Bool) (k n : Int) (l : List S47) (h0 : 0 ≤ k) (h : k < l.length) : phi X (fixL l k n) = phiBut X k l + ph X { rd_T47 l k with f2 := ⟨n, n⟩ } := by
  rw [phi_split X k _ h0 (by rw [fixL_length]; exact h), phiBut_fix X k n l h0]
  unfold fixL
  rw [rd_set_same l k _ h0 h]

/-- Two sets against each other, flow by flow. -/
theorem ph_cross (X Y : Int → Bool) (x : S47) (hx : x.f2.f0 ≤ x.f2.f1) : ph X x + ph Y x ≤ ph (fun p => X p && Y p) x + ph (fun p => X p || Y p) x := by
  simp only [ph]
  rcases Bool.eq_false_or_eq_true (X x.f0) with a | a <;> rcases Bool.eq_false_or_eq_true (X x.f1) with b | b <;> rcases Bool.eq_false_or_eq_true (Y x.f0) with c | c <;> rcases Bool.eq_false_or_eq_true (Y x.f1) with d | d <;> simp [a, b, c, d] <;> omega
theorem ph_cross_k (X Y : Int → Bool) (x : S47) (a : X x.f0 = true) (b : X x.f1 = false) (c : Y x.f0 = false) (d : Y x.f1 = true) : ph (fun p => X p && Y p) x + ph (fun p => X p || Y p) x = 0 := by
  unfold ph
  simp [a, b, c, d]

theorem cut_pair (l : List S47) (hl : ∀ x ∈ l, x.f2.f0 ≤ x.f2.f1) (hc : Cut l) (k : Int) (h0 : 0 ≤ k) (h : k < l.length) (X Y : Int → Bool)
    (a : X (rd_T47 l k).f0 = true) (b : X (rd_T47 l k).f1 = false) (c : Y (rd_T47 l k).f0 = false) (d : Y (rd_T47 l k).f1 = true) : phiBut X k l + phiBut Y k l ≤ 0 := by
  have h1 : phiBut X k l + phiBut Y k l ≤ phiBut (fun p => X p && Y p) k l + phiBut (fun p => X p || Y p) k l := by
    unfold phiBut
    rw [← side_add, ← side_add]
    refine side_le _ _ l (fun i x hx => ?_) 0
    unfold phB
    by_cases e : i = k
    · simp [e]
    · simp only [if_neg e]
      exact ph_cross X Y x (hl x hx)
  have h2 := phi_split (fun p => X p && Y p) k l h0 h
  have h3 := phi_split (fun p => X p || Y p) k l h0 h
  have h4 := ph_cross_k X Y (rd_T47 l k) a b c d
  have h5 := hc (fun p => X p && Y p)
  have h6 := hc (fun p => X p || Y p)
  omega

/-- Fixing a flow within its bounds keeps the cut condition. -/
theorem cut_fix (l : List S47) (hc : Cut l) (k n : Int) (h0 : 0 ≤ k) (h : k < l.length)
    (hlo : ∀ X : Int → Bool, X (rd_T47 l k).f0 = true → X (rd_T47 l k).f1 = false → phiBut X k l ≤ n)
    (hhi : ∀ X : Int → Bool, X (rd_T47 l k).f0 = false → X (rd_T47 l k).f1 = true → phiBut X k l ≤ - n) : Cut (fixL l k n) := by
  intro X
  rw [phi_fix X k n l h0 h]
  have h1 := phi_split X k l h0 h
  have h2 := hc X
  cases a : X (rd_T47 l k).f0 <;> cases b : X (rd_T47 l k).f1
  · simp only [ph, a, b, if_true] at h1 ⊢; omega
  · have := hhi X a b
    simp [ph, a, b]; omega
  · have := hlo X a b
    simp [ph, a, b]; omega
  · simp only [ph, a, b, if_true] at h1 ⊢; omega
end Go.Proofs.Ytalgbihpidpblaa.Print

namespace Go.Proofs.Ytalgbihpidpblaa.Print
open Go.RowKit Go.Shelf Go.Proofs.YtalgbihpidpblaaW.PrintWords Go.Proofs.YtalgbihpidpblaaW.PrintLast Go.Proofs.YtalgbihpidpblaaW.PrintMore
set_option linter.unusedVariables false
set_option linter.unusedSimpArgs false

def GoodL (pl : Int) (l : List S47) : Prop := ∀ x ∈ l, goodF pl x

theorem code_nat (X : Nat → Bool) : ∀ n : Nat, ∃ s, s < 2 ^ n ∧ ∀ p, p < n → s.testBit p = X p
  | 0 => ⟨0, by decide, fun p h => by omega⟩
  | n + 1 => by
    obtain ⟨s, hs, h⟩ := code_nat X n
    have hpow : 2 ^ (n + 1) = 2 ^ n + 2 ^ n := by rw [Nat.pow_succ]; omega
    cases hx : X n with
    | false =>
      refine ⟨s, by omega, fun p hp => ?_⟩
      rcases Nat.lt_or_ge p n with h1 | h1
      · exact h p h1
      · obtain rfl : p = n := by omega
        rw [Nat.testBit_lt_two_pow hs, hx]
    | true =>
      refine ⟨s ||| 2 ^ n, Nat.or_lt_two_pow (by omega) (by omega), fun p hp => ?_⟩
      rw [Nat.testBit_or, Nat.testBit_two_pow]
      rcases Nat.lt_or_ge p n with h1 | h1
      · rw [h p h1, decide_eq_false (by omega), Bool.or_false]
      · obtain rfl : p = n := by omega
        rw [decide_eq_true rfl, Bool.or_true, hx]

theorem code_of (pl : Int) (h8 : pl ≤ 8) (X : Int → Bool) : ∃ s ∈ setsL pl, ∀ p : Int, 0 ≤ p → p < pl → hasB s p = X p := by
  obtain ⟨s, hs, h⟩ := code_nat (fun p => X p) pl.toNat
  have hp := pow_le pl h8
  refine ⟨(s : Int), (setsL_mem pl _).2 ⟨by omega, by omega⟩, fun p h0 h1 => ?_⟩
  obtain ⟨q, rfl⟩ := Int.eq_ofNat_of_zero_le h0
  rw [hasB_bit s q (by omega) (by omega)]
  exact h q (by omega)

theorem ph_congr (X Y : Int → Bool) (pl : Int) (x : S47) (hx : goodF pl x) (h : ∀ p : Int, 0 ≤ p → p < pl → X p = Y p) : ph X x = ph Y x := by
  unfold goodF at hx
  unfold ph
  rw [h x.f0 (by omega) (by omega), h x.f1 (by omega) (by omega)]
theorem phi_congr (X Y : Int → Bool) (pl : Int) (l : List S47) (hl : GoodL pl l) (h : ∀ p : Int, 0 ≤ p → p < pl → X p = Y p) : phi X l = phi Y l :=
  side_eq _ _ l (fun _ x hx => ph_congr X Y pl x (hl x hx) h) 0
theorem phiBut_congr (X Y : Int → Bool) (pl k : Int) (l : List S47) (hl : GoodL pl l) (h : ∀ p : Int, 0 ≤ p → p < pl → X p = Y p) : phiBut X k l = phiBut Y k l :=
  side_eq _ _ l (fun i x hx => by unfold phB; rw [ph_congr X Y pl x (hl x hx) h]) 0

theorem side_eq_from (c d : Int → S47 → Int) (l : List S47) : ∀ i0, (∀ i, i0 ≤ i → ∀ x ∈ l, c i x = d i x) → sideSum c i0 l = sideSum d i0 l := by
  induction l with
  | nil => intro i _; rfl
  | cons y r ih =>
    intro i h
    simp only [sideSum]
    rw [h i (Int.le_refl _) y (by simp), ih (i + 1) (fun j hj x hx => h j (by omega) x (by simp [hx]))]

theorem phi_total (s : Int) (l : List S47) : phi (hasB s) l = total s (-1) false false l - total s (-1) true true l := by
  unfold phi total
  rw [← side_sub]
  refine side_eq_from _ _ l 0 (fun i hi x _ => ?_)
  unfold ph contrib
  have hi' : ¬ i = -1 := by omega
  cases a : hasB s x.f0 <;> cases b : hasB s x.f1 <;> simp [hi']

theorem says_least (l : List S47) (k s : Int) : says false l k s = phiBut (fun p => !hasB s p) k l := by
  unfold says phiBut total
  simp only [Bool.false_eq_true, if_false]
  rw [← side_sub]
  refine side_eq _ _ l (fun i x _ => ?_) 0
  unfold phB ph contrib
  by_cases e : i = k
  · simp [e]
  · rcases Bool.eq_false_or_eq_true (hasB s x.f0) with a | a <;> rcases Bool.eq_false_or_eq_true (hasB s x.f1) with b | b <;> simp [e, a, b]
theorem says_most (l : List S47) (k s : Int) : says true l k s = - phiBut (hasB s) k l := by
  unfold says phiBut total
  simp only [if_true]
  rw [← side_sub, ← side_neg]
  refine side_eq _ _ l (fun i x _ => ?_) 0
  unfold phB ph contrib
  by_cases e : i = k
  · simp [e]
  · rcases Bool.eq_false_or_eq_true (hasB s x.f0) with a | a <;> rcases Bool.eq_false_or_eq_true (hasB s x.f1) with b | b <;> simp [e, a, b]

theorem cut_of_none (pl : Int) (l : List S47) (h8 : pl ≤ 8) (hl : GoodL pl l) (h : ∀ s ∈ setsL pl, wrongB l s = false) : Cut l := by
  intro X
  obtain ⟨s, hs, hX⟩ := code_of pl h8 X
  rw [← phi_congr (hasB s) X pl l hl hX, phi_total]
  have := h s hs
  unfold wrongB at this
  simp at this
  omega
theorem none_of_cut (l : List S47) (h : Cut l) (s : Int) : wrongB l s = false := by
  have := h (hasB s)
  rw [phi_total] at this
  unfold wrongB
  simp
  omega
theorem find_none {pl : Int} {l : List S47} (h : ((setsL pl).find? (wrongB l)).isSome = false) : ∀ s ∈ setsL pl, wrongB l s = false := by
  intro s hs
  have h1 : (setsL pl).find? (wrongB l) = none := by
    cases hf : (setsL pl).find? (wrongB l) with
    | none => rfl
    | some x => rw [hf] at h; cases h
  rw [List.find?_eq_none] at h1
  simpa using h1 s hs

theorem rd_good (pl : Int) (l : List S47) (hl : GoodL pl l) (k : Int) (h0 : 0 ≤ k) (h : k < l.length) : goodF pl (rd_T47 l k) := by
  obtain ⟨n, rfl⟩ := Int.eq_ofNat_of_zero_le h0
  refine hl _ ?_
  rw [rd_T45_eq _ _ (by omega)]
  exact List.getElem_mem _

/-- What the bounds are to the cuts. -/
theorem least_ge (pl : Int) (l : List S47) (h8 : pl ≤ 8) (hl : GoodL pl l) (k : Int) (h0 : 0 ≤ k) (h : k < l.length) (X : Int → Bool) (a : X (rd_T47 l k).f0 = true) (b : X (rd_T47 l k).f1 = false) : phiBut X k l ≤ (boundS false pl l k).1 := by
  have hg := rd_good pl l hl k h0 h
  unfold goodF at hg
  obtain ⟨s, hs, hX⟩ := code_of pl h8 (fun p => !X p)
  have h1 := (bound_spec false pl l k).2.2 s hs (by rw [hX _ (by omega) (by omega), b]; rfl) (by rw [hX _ (by omega) (by omega), a]; rfl)
  simp only [Bool.false_eq_true, if_false] at h1
  rw [says_least, phiBut_congr (fun p => !hasB s p) X pl k l hl (fun p p0 p1 => by rw [hX p p0 p1]; simp)] at h1
  exact h1
theorem most_le (pl : Int) (l : List S47) (h8 : pl ≤ 8) (hl : GoodL pl l) (k : Int) (h0 : 0 ≤ k) (h : k < l.length) (X : Int → Bool) (a : X (rd_T47 l k).f0 = false) (b : X (rd_T47 l k).f1 = true) : phiBut X k l ≤ - (boundS true pl l k).1 := by
  have hg := rd_good pl l hl k h0 h
  unfold goodF at hg
  obtain ⟨s, hs, hX⟩ := code_of pl h8 X
  have h1 := (bound_spec true pl l k).2.2 s hs (by rw [hX _ (by omega) (by omega), b]) (by rw [hX _ (by omega) (by omega), a])
  simp only [if_true] at h1
  rw [says_most, phiBut_congr (hasB s) X pl k l hl hX] at h1
  omega
theorem least_is (pl : Int) (l : List S47) (k : Int) : (boundS false pl l k).1 = (rd_T47 l k).f2.f0 ∨ ((boundS false pl l k).1 > (rd_T47 l k).f2.f0 ∧ ∃ X : Int → Bool, X (rd_T47 l k).f0 = true ∧ X (rd_T47 l k).f1 = false ∧ (boundS false pl l k).1 = phiBut X k l) := by
  obtain ⟨b1, b2, _⟩ := bound_spec false pl l k
  cases hb : (boundS false pl l k).2.2 with
  | false => exact .inl (by rw [b1 hb]; rfl)
  | true =>
    obtain ⟨_, h1, h0, hs, hlt⟩ := b2 hb
    refine .inr ⟨by simpa [first] using hlt, fun p => !hasB (boundS false pl l k).2.1 p, by simp [h0], by simp [h1], ?_⟩
    rw [← says_least, hs]
theorem most_is (pl : Int) (l : List S47) (k : Int) : (boundS true pl l k).1 = (rd_T47 l k).f2.f1 ∨ ((boundS true pl l k).1 < (rd_T47 l k).f2.f1 ∧ ∃ X : Int → Bool, X (rd_T47 l k).f0 = false ∧ X (rd_T47 l k).f1 = true ∧ (boundS true pl l k).1 = - phiBut X k l) := by
  obtain ⟨b1, b2, _⟩ := bound_spec true pl l k
  cases hb : (boundS true pl l k).2.2 with
  | false => exact .inl (by rw [b1 hb]; rfl)
  | true =>
    obtain ⟨_, h1, h0, hs, hlt⟩ := b2 hb
    refine .inr ⟨by simpa [first] using hlt, hasB (boundS true pl l k).2.1, h0, h1, ?_⟩
    rw [← says_most, hs]

theorem bounds_in (pl : Int) (l : List S47) (hl : GoodL pl l) (hc : Cut l) (k : Int) (h0 : 0 ≤ k) (h : k < l.length) :
    (rd_T47 l k).f2.f0 ≤ (boundS false pl l k).1 ∧ (boundS false pl l k).1 ≤ (boundS true pl l k).1 ∧ (boundS true pl l k).1 ≤ (rd_T47 l k).f2.f1 := by
  have hg := rd_good pl l hl k h0 h
  unfold goodF at hg
  have hle : ∀ x ∈ l, x.f2.f0 ≤ x.f2.f1 := fun x hx => by have := hl x hx; unfold goodF at this; omega
  refine ⟨?_, ?_, ?_⟩
  · rcases least_is pl l k with e | ⟨e, _⟩ <;> omega
  · rcases least_is pl l k with e | ⟨e, X, a, b, eX⟩ <;> rcases most_is pl l k with e' | ⟨e', Y, c, d, eY⟩
    · omega
    · have := phi_split Y k l h0 h
      have h2 := hc Y
      have h3 : ph Y (rd_T47 l k) = (rd_T47 l k).f2.f0 := by simp [ph, c, d]
      omega
    · have := phi_split X k l h0 h
      have h2 := hc X
      have h3 : ph X (rd_T47 l k) = - (rd_T47 l k).f2.f1 := by simp [ph, a, b]
      omega
    · have := cut_pair l hle hc k h0 h X Y a b c d
      omega
  · rcases most_is pl l k with e | ⟨e, _⟩ <;> omega

/-- A flow fixed anywhere within its bounds: the plant is good, and the cut condition holds. -/
theorem fix_good (pl : Int) (l : List S47) (hl : GoodL pl l) (k n : Int) (h0 : 0 ≤ k) (h : k < l.length) (h1 : (rd_T47 l k).f2.f0 ≤ n) (h2 : n ≤ (rd_T47 l k).f2.f1) : GoodL pl (fixL l k n) := by
  intro x hx
  have hg := rd_good pl l hl k h0 h
  unfold fixL at hx
  rcases List.mem_or_eq_of_mem_set hx with hx | rfl
  · exact hl x hx
  · unfold goodF at hg ⊢
    simp only
    omega
theorem fix_cut (pl : Int) (l : List S47) (h8 : pl ≤ 8) (hl : GoodL pl l) (hc : Cut l) (k n : Int) (h0 : 0 ≤ k) (h : k < l.length) (h1 : (boundS false pl l k).1 ≤ n) (h2 : n ≤ (boundS true pl l k).1) : Cut (fixL l k n) :=
  cut_fix l hc k n h0 h (fun X a b => Int.le_trans (least_ge pl l h8 hl k h0 h X a b) h1) (fun X a b => by have := most_le pl l h8 hl k h0 h X a b; omega)

theorem fixOne_fix (pl : Int) (cur : List S47) (i : Nat) : fixOne pl cur i = fixL cur i (boundS false pl cur i).1 := by
  unfold fixOne fixL
  rw [Int.toNat_natCast]

/-- All plants on the way to the first truth are good. -/
theorem fixes_good (pl : Int) (l : List S47) (h8 : pl ≤ 8) (hl : GoodL pl l) (hc : Cut l) : ∀ i : Nat, i ≤ l.length → GoodL pl (fixes pl l i) ∧ Cut (fixes pl l i)
  | 0, _ => ⟨hl, hc⟩
  | i + 1, hi => by
    obtain ⟨g, c⟩ := fixes_good pl l h8 hl hc i (by omega)
    have hlen := fixes_length pl l i
    have hb := bounds_in pl _ g c i (by omega) (by omega)
    simp only [fixes]
    rw [fixOne_fix]
    exact ⟨fix_good pl _ g i _ (by omega) (by omega) hb.1 (by omega), fix_cut pl _ h8 g c i _ (by omega) (by omega) (Int.le_refl _) hb.2.1⟩
end Go.Proofs.Ytalgbihpidpblaa.Print

namespace Go.Proofs.Ytalgbihpidpblaa.Print
open Go.RowKit Go.Shelf Go.Proofs.YtalgbihpidpblaaW.PrintWords Go.Proofs.YtalgbihpidpblaaW.PrintLast Go.Proofs.YtalgbihpidpblaaW.PrintMore
set_option linter.unusedVariables false
set_option linter.unusedSimpArgs false

def nx (X : Int → Bool) (x : S47) (n : Int) : Int := if X x.f0 = X x.f1 then 0 else if X x.f1 = true then n else - n
def net (X : Int → Bool) : List S47 → List Int → Int
  | x :: r, n :: q => nx X x n + net X r q
  | _, _ => 0
def inG : List S47 → List Int → Prop
  | [], [] => True
  | x :: r, n :: q => (x.f2.f0 ≤ n ∧ n ≤ x.f2.f1) ∧ inG r q
  | _, _ => False
/-- A truth. -/
def Tr (l : List S47) (t : List Int) : Prop := inG l t ∧ ∀ X, net X l t = 0

theorem inG_length : ∀ (l : List S47) (t : List Int), inG l t → t.length = l.length
  | [], [], _ => rfl
  | x :: r, n :: q, h => by simp [inG_length r q h.2]
theorem inG_at : ∀ (l : List S47) (t : List Int), inG l t → ∀ k : Nat, k < l.length → (rd_T47 l k).f2.f0 ≤ rd t k ∧ rd t k ≤ (rd_T47 l k).f2.f1
  | [], _, _, k, hk => by simp at hk
  | x :: r, n :: q, h, 0, _ => h.1
  | x :: r, n :: q, h, k + 1, hk => by
    have := inG_at r q h.2 k (by simpa using hk)
    simpa [rd_T47, rd] using this
theorem inG_of : ∀ (l : List S47) (t : List Int), t.length = l.length → (∀ k : Nat, k < l.length → (rd_T47 l k).f2.f0 ≤ rd t k ∧ rd t k ≤ (rd_T47 l k).f2.f1) → inG l t
  | [], [], _, _ => trivial
  | [], _ :: _, h, _ => by simp at h
  | _ :: _, [], h, _ => by simp at h
  | x :: r, n :: q, h, hk => by
    refine ⟨hk 0 (by simp), inG_of r q (by simpa using h) (fun k hk' => ?_)⟩
    have := hk (k + 1) (by simpa using hk')
    simpa [rd_T47, rd] using this

theorem ph_le (X : Int → Bool) (x : S47) (n : Int) (h : x.f2.f0 ≤ n ∧ n ≤ x.f2.f1) : ph X x ≤ nx X x n := by
  unfold ph nx
  split
  · omega
  · split <;> omega
theorem phi_cons (X : Int → Bool) (x : S47) (r : List S47) : phi X (x :: r) = ph X x + phi X r := by
  unfold phi
  simp only [sideSum]
  congr 1
  have hs : ∀ (m : List S47) (i j : Int), sideSum (fun _ x => ph X x) i m = sideSum (fun _ x => ph X x) j m := by
    intro m
    induction m with
    | nil => intro i j; rfl
    | cons y q ih => intro i j; simp only [sideSum]; rw [ih (i + 1) (j + 1)]
  exact hs r _ _
theorem phi_le_net (X : Int → Bool) : ∀ (l : List S47) (t : List Int), inG l t → phi X l ≤ net X l t
  | [], [], _ => Int.le_refl _
  | x :: r, n :: q, h => by
    have h1 := ph_le X x n h.1
    have h2 := phi_le_net X r q h.2
    rw [phi_cons]
    simp only [net]
    omega
theorem tr_cut (l : List S47) (t : List Int) (h : Tr l t) : Cut l := fun X => by
  have h1 := phi_le_net X l t h.1
  rw [h.2 X] at h1
  exact h1

theorem but_le_net (X : Int → Bool) : ∀ (l : List S47) (t : List Int), inG l t → ∀ (k i : Int), i ≤ k → k < i + l.length → sideSum (phB X k) i l ≤ net X l t - nx X (rd_T47 l (k - i)) (rd t (k - i))
  | [], [], _, k, i, h1, h2 => by simp at h2; omega
  | x :: r, n :: q, h, k, i, h1, h2 => by
    simp only [sideSum, net]
    by_cases e : i = k
    · subst e
      have hz : ∀ (m : List S47) (j : Int), i < j → sideSum (phB X i) j m = phi X m := by
        intro m
        induction m with
        | nil => intro j _; rfl
        | cons z s ih =>
          intro j hj
          rw [phi_cons]
          simp only [sideSum]
          rw [ih (j + 1) (by omega)]
          unfold phB
          rw [if_neg (by omega)]
      rw [hz r (i + 1) (by omega)]
      have := phi_le_net X r q h.2
      have e1 : phB X i i x = 0 := by unfold phB; rw [if_pos rfl]
      have e2 : rd_T47 (x :: r) (i - i) = x := by simp [rd_T47]
      have e3 : rd (n :: q) (i - i) = n := by simp [rd]
      rw [e1, e2, e3]
      omega
    · have ih := but_le_net X r q h.2 k (i + 1) (by omega) (by simp at h2; omega)
      have e0 : (k - i).toNat = (k - (i + 1)).toNat + 1 := by omega
      have e2 : rd_T47 (x :: r) (k - i) = rd_T47 r (k - (i + 1)) := by simp [rd_T47, e0]
      have e3 : rd (n :: q) (k - i) = rd q (k - (i + 1)) := by simp [rd, e0]
      have e1 : phB X k i x = ph X x := by unfold phB; rw [if_neg e]
      have h3 := ph_le X x n h.1
      rw [e1, e2, e3]
      omega

theorem tr_bounds (pl : Int) (l : List S47) (t : List Int) (h : Tr l t) (k : Nat) (hk : k < l.length) : (boundS false pl l k).1 ≤ rd t k ∧ rd t k ≤ (boundS true pl l k).1 := by
  have hin := inG_at l t h.1 k hk
  have hb := fun X => but_le_net X l t h.1 k 0 (by omega) (by omega)
  simp only [h.2, Int.sub_zero, Int.zero_sub] at hb
  constructor
  · rcases least_is pl l k with e | ⟨_, X, a, b, e⟩
    · omega
    · have := hb X
      have e2 : nx X (rd_T47 l k) (rd t k) = - rd t k := by simp [nx, a, b]
      rw [e2] at this
      unfold phiBut at e
      omega
  · rcases most_is pl l k with e | ⟨_, X, a, b, e⟩
    · omega
    · have := hb X
      have e2 : nx X (rd_T47 l k) (rd t k) = rd t k := by simp [nx, a, b]
      rw [e2] at this
      unfold phiBut at e
      omega

theorem net_set (X : Int → Bool) : ∀ (l : List S47) (t : List Int) (m : Nat) (s : S45), net X (l.set m { (l.getD m z47) with f2 := s }) t = net X l t
  | [], _, _, _ => by simp
  | x :: r, [], 0, s => by simp [net]
  | x :: r, [], m + 1, s => by simp [net]
  | x :: r, n :: q, 0, s => by
    simp only [List.set_cons_zero, net, List.getD_cons_zero]
    rfl
  | x :: r, n :: q, m + 1, s => by
    simp only [List.set_cons_succ, net, List.getD_cons_succ]
    rw [net_set X r q m s]
theorem net_fix (X : Int → Bool) (l : List S47) (t : List Int) (k n : Int) : net X (fixL l k n) t = net X l t := by
  unfold fixL rd_T47
  exact net_set X l t k.toNat ⟨n, n⟩

theorem tr_fix (l : List S47) (t : List Int) (h : Tr l t) (k : Nat) (hk : k < l.length) : Tr (fixL l k (rd t k)) t := by
  refine ⟨inG_of _ _ (by rw [fixL_length]; exact inG_length l t h.1) (fun j hj => ?_), fun X => by rw [net_fix]; exact h.2 X⟩
  rw [fixL_length] at hj
  by_cases e : (j : Int) = k
  · rw [e]
    unfold fixL
    rw [rd_set_same l k _ (by omega) (by omega)]
    simp
  · unfold fixL
    rw [rd_set_other l k j _ (by omega) (by omega) e]
    exact inG_at l t h.1 j hj
theorem tr_unfix (l : List S47) (t : List Int) (k : Nat) (hk : k < l.length) (n : Int) (h1 : (rd_T47 l k).f2.f0 ≤ n) (h2 : n ≤ (rd_T47 l k).f2.f1) (h : Tr (fixL l k n) t) : Tr l t ∧ rd t k = n := by
  have hk' := inG_at _ t h.1 k (by rw [fixL_length]; exact hk)
  unfold fixL at hk'
  rw [rd_set_same l k _ (by omega) (by omega)] at hk'
  simp only at hk'
  refine ⟨⟨inG_of _ _ (by rw [inG_length _ t h.1, fixL_length]) (fun j hj => ?_), fun X => by rw [← net_fix X l t k n]; exact h.2 X⟩, by omega⟩
  by_cases e : (j : Int) = k
  · rw [e]; omega
  · have := inG_at _ t h.1 j (by rw [fixL_length]; exact hj)
    unfold fixL at this
    rwa [rd_set_other l k j _ (by omega) (by omega) e] at this

theorem net_all (X : Int → Bool) : ∀ l : List S47, (∀ x ∈ l, x.f2.f0 = x.f2.f1) → net X l (l.map fun x => x.f2.f0) = phi X l
  | [], _ => rfl
  | x :: r, h => by
    rw [phi_cons]
    simp only [List.map_cons, net]
    rw [net_all X r (fun y hy => h y (by simp [hy]))]
    have e := h x (by simp)
    unfold ph nx
    rw [← e]
theorem phi_not (X : Int → Bool) : ∀ l : List S47, (∀ x ∈ l, x.f2.f0 = x.f2.f1) → phi (fun p => !X p) l = - phi X l
  | [], _ => rfl
  | x :: r, h => by
    rw [phi_cons, phi_cons, phi_not X r (fun y hy => h y (by simp [hy]))]
    have e := h x (by simp)
    have : ph (fun p => !X p) x = - ph X x := by
      simp only [ph]
      rcases Bool.eq_false_or_eq_true (X x.f0) with a | a <;> rcases Bool.eq_false_or_eq_true (X x.f1) with b | b <;> simp [a, b, e]
    omega
theorem inG_all : ∀ l : List S47, (∀ x ∈ l, x.f2.f0 = x.f2.f1) → inG l (l.map fun x => x.f2.f0)
  | [], _ => trivial
  | x :: r, h => ⟨⟨Int.le_refl _, Int.le_of_eq (h x (by simp))⟩, inG_all r (fun y hy => h y (by simp [hy]))⟩
theorem tr_all (l : List S47) (hc : Cut l) (h : ∀ x ∈ l, x.f2.f0 = x.f2.f1) : Tr l (l.map fun x => x.f2.f0) := by
  refine ⟨inG_all l h, fun X => ?_⟩
  rw [net_all X l h]
  have h1 := hc X
  have h2 := hc (fun p => !X p)
  rw [phi_not X l h] at h2
  omega

/-! ### The first truth -/
theorem fixes_at (pl : Int) (l : List S47) : ∀ (i : Nat), i ≤ l.length → ∀ j : Nat, j < l.length →
    (j < i → (rd_T47 (fixes pl l i) j).f2.f0 = rd (truthL pl l i) j ∧ (rd_T47 (fixes pl l i) j).f2.f1 = rd (truthL pl l i) j) ∧ (i ≤ j → rd_T47 (fixes pl l i) j = rd_T47 l j)
  | 0, _, j, _ => ⟨fun h => by omega, fun _ => rfl⟩
  | i + 1, hi, j, hj => by
    have ih := fixes_at pl l i (by omega) j hj
    have hlen := fixes_length pl l i
    have htl := truthL_length pl l i
    simp only [fixes]
    rw [fixOne_fix]
    refine ⟨fun h => ?_, fun h => ?_⟩
    · by_cases e : j = i
      · subst e
        unfold fixL
        rw [rd_set_same _ _ _ (by omega) (by omega)]
        have : rd (truthL pl l (j + 1)) (j : Int) = (boundS false pl (fixes pl l j) j).1 := by simp [truthL, rd, htl]
        rw [this]
        exact ⟨rfl, rfl⟩
      · unfold fixL
        rw [rd_set_other _ _ _ _ (by omega) (by omega) (by omega)]
        have : rd (truthL pl l (i + 1)) (j : Int) = rd (truthL pl l i) j := by
          have hj' : j < (truthL pl l i).length := by omega
          simp [truthL, rd, List.getElem?_append_left hj']
        rw [this]
        exact ih.1 (by omega)
    · unfold fixL
      rw [rd_set_other _ _ _ _ (by omega) (by omega) (by omega)]
      exact ih.2 (by omega)

theorem rd_at (xs : List Int) (i : Nat) (h : i < xs.length) : rd xs i = xs[i] := by simp [rd, List.getD_eq_getElem?_getD, h]

theorem truth_is (pl : Int) (l : List S47) (h8 : pl ≤ 8) (hl : GoodL pl l) (hc : Cut l) : Tr l (truthL pl l l.length) := by
  have hg := fixes_good pl l h8 hl hc
  have hend : Tr (fixes pl l l.length) (truthL pl l l.length) := by
    have hlen := fixes_length pl l l.length
    have htl := truthL_length pl l l.length
    have hfix : ∀ x ∈ fixes pl l l.length, x.f2.f0 = x.f2.f1 := by
      intro x hx
      obtain ⟨j, hj, rfl⟩ := List.getElem_of_mem hx
      have := (fixes_at pl l l.length (Nat.le_refl _) j (by omega)).1 (by omega)
      rw [rd_T45_eq _ _ hj] at this
      omega
    have := tr_all _ (hg l.length (Nat.le_refl _)).2 hfix
    have e : (fixes pl l l.length).map (fun x => x.f2.f0) = truthL pl l l.length := by
      apply List.ext_getElem
      · simp [hlen, htl]
      · intro j h1 h2
        have hj : j < (fixes pl l l.length).length := by simpa using h1
        have := (fixes_at pl l l.length (Nat.le_refl _) j (by omega)).1 (by omega)
        rw [rd_T45_eq _ _ hj, rd_at _ _ h2] at this
        simpa using this.1
    rwa [e] at this
  have back : ∀ i, i ≤ l.length → Tr (fixes pl l i) (truthL pl l l.length) → Tr l (truthL pl l l.length) := by
    intro i
    induction i with
    | zero => intro _ h; exact h
    | succ i ih =>
      intro hi h
      have hlen := fixes_length pl l i
      obtain ⟨g, c⟩ := hg i (by omega)
      have hb := bounds_in pl _ g c i (by omega) (by omega)
      simp only [fixes] at h
      rw [fixOne_fix] at h
      exact ih (by omega) (tr_unfix _ _ i (by omega) _ hb.1 (by omega) h).1
  exact back l.length (Nat.le_refl _) hend

/-- There is a truth with any number of a flow between its bounds. -/
theorem truth_with (pl : Int) (l : List S47) (h8 : pl ≤ 8) (hl : GoodL pl l) (hc : Cut l) (k : Nat) (hk : k < l.length) (n : Int) (h1 : (boundS false pl l k).1 ≤ n) (h2 : n ≤ (boundS true pl l k).1) : ∃ t, Tr l t ∧ rd t k = n := by
  have hb := bounds_in pl l hl hc k (by omega) (by omega)
  have ht := truth_is pl (fixL l k n) h8 (fix_good pl l hl k n (by omega) (by omega) (by omega) (by omega)) (fix_cut pl l h8 hl hc k n (by omega) (by omega) h1 h2)
  exact ⟨_, tr_unfix l _ k hk n (by omega) (by omega) ht⟩

/-- No truth comes before the first one. -/
theorem truth_first (pl : Int) (l : List S47) (h8 : pl ≤ 8) (hl : GoodL pl l) (t : List Int) (ht : Tr l t) : ∀ i : Nat, i < l.length → (∀ j : Nat, j < i → rd t j = rd (truthL pl l l.length) j) → rd (truthL pl l l.length) i ≤ rd t i := by
  have hpre : ∀ (m i : Nat), i ≤ m → ∀ j : Nat, j < i → rd (truthL pl l m) j = rd (truthL pl l i) j := by
    intro m
    induction m with
    | zero => intro i hi j hj; omega
    | succ m ih =>
      intro i hi j hj
      by_cases e : i = m + 1
      · rw [e]
      · rw [← ih i (by omega) j hj]
        have hj' : j < (truthL pl l m).length := by rw [truthL_length]; omega
        simp [truthL, rd, List.getElem?_append_left hj']
  have hfix : ∀ i : Nat, i ≤ l.length → (∀ j : Nat, j < i → rd t j = rd (truthL pl l l.length) j) → Tr (fixes pl l i) t := by
    intro i
    induction i with
    | zero => intro _ _; exact ht
    | succ i ih =>
      intro hi h
      have h1 := ih (by omega) (fun j hj => h j (by omega))
      have hlen := fixes_length pl l i
      have h2 := tr_fix _ t h1 i (by omega)
      have e : rd t i = (boundS false pl (fixes pl l i) i).1 := by
        rw [h i (by omega), hpre l.length (i + 1) hi i (by omega)]
        have htl := truthL_length pl l i
        simp [truthL, rd, htl]
      rw [e] at h2
      simp only [fixes]
      rwa [fixOne_fix]
  intro i hi h
  have hlen := fixes_length pl l i
  have h1 := tr_bounds pl _ t (hfix i (by omega) h) i (by omega)
  have e : rd (truthL pl l l.length) i = (boundS false pl (fixes pl l i) i).1 := by
    rw [hpre l.length (i + 1) (by omega) i (by omega)]
    have htl := truthL_length pl l i
    simp [truthL, rd, htl]
  rw [e]
  exact h1.1
end Go.Proofs.Ytalgbihpidpblaa.Print
