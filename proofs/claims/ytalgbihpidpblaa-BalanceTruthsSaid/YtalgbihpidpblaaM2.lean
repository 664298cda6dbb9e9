/- The program's sets and bounds, as cuts (plain facts). -/
import Derived.Test.YtalgbihpidpblaaM1
import Derived.Test.YtalgbihpidpblaaHD
namespace Go.Proofs.Ytalgbihpidpblaa.Print
open Go.RowKit Go.Shelf Go.Proofs.YtalgbihpidpblaaW.PrintWords Go.Proofs.YtalgbihpidpblaaW.PrintLast Go.Proofs.YtalgbihpidpblaaW.PrintMore
set_option linter.unusedVariables false
set_option linter.unusedSimpArgs false

def GoodL (pl : Int) (l : List S47) : Prop := ∀ x ∈ l, goodF pl x

theorem code_nat (X : Nat → Bool) : ∀ n : Nat, ∃ s, s < 2 ^ n ∧ ∀ p, p < n → s.testBit p = X p
  | 0 => ⟨0, by decide, fun p h => by omega⟩
  | n + 1 => by
    obtain ⟨s, hs, h⟩ := code_nat X n
    have hpow : 2 ^ (n + 1) = 2 ^ n + 2 ^ n := by rw [Nat.pow_succ]; omega
    cases hx : X n with
    | false =>
      refine ⟨s, by omega, fun p hp => ?_⟩
      rcases Nat.lt_or_ge p n with h1 | h1
      · exact h p h1
      · obtain rfl : p = n := by omega
        rw [Nat.testBit_lt_two_pow hs, hx]
    | true =>
      refine ⟨s ||| 2 ^ n, Nat.or_lt_two_pow (by omega) (by omega), fun p hp => ?_⟩
      rw [Nat.testBit_or, Nat.testBit_two_pow]
      rcases Nat.lt_or_ge p n with h1 | h1
      · rw [h p h1, decide_eq_false (by omega), Bool.or_false]
      · obtain rfl : p = n := by omega
        rw [decide_eq_true rfl, Bool.or_true, hx]

theorem code_of (pl : Int) (h8 : pl ≤ 8) (X : Int → Bool) : ∃ s ∈ setsL pl, ∀ p : Int, 0 ≤ p → p < pl → hasB s p = X p := by
  obtain ⟨s, hs, h⟩ := code_nat (fun p => X p) pl.toNat
  have hp := pow_le pl h8
  refine ⟨(s : Int), (setsL_mem pl _).2 ⟨by omega, by omega⟩, fun p h0 h1 => ?_⟩
  obtain ⟨q, rfl⟩ := Int.eq_ofNat_of_zero_le h0
  rw [hasB_bit s q (by omega) (by omega)]
  exact h q (by omega)

theorem ph_congr (X Y : Int → Bool) (pl : Int) (x : S47) (hx : goodF pl x) (h : ∀ p : Int, 0 ≤ p → p < pl → X p = Y p) : ph X x = ph Y x := by
  unfold goodF at hx
  unfold ph
  rw [h x.f0 (by omega) (by omega), h x.f1 (by omega) (by omega)]
theorem phi_congr (X Y : Int → Bool) (pl : Int) (l : List S47) (hl : GoodL pl l) (h : ∀ p : Int, 0 ≤ p → p < pl → X p = Y p) : phi X l = phi Y l :=
  side_eq _ _ l (fun _ x hx => ph_congr X Y pl x (hl x hx) h) 0
theorem phiBut_congr (X Y : Int → Bool) (pl k : Int) (l : List S47) (hl : GoodL pl l) (h : ∀ p : Int, 0 ≤ p → p < pl → X p = Y p) : phiBut X k l = phiBut Y k l :=
  side_eq _ _ l (fun i x hx => by unfold phB; rw [ph_congr X Y pl x (hl x hx) h]) 0

theorem side_eq_from (c d : Int → S47 → Int) (l : List S47) : ∀ i0, (∀ i, i0 ≤ i → ∀ x ∈ l, c i x = d i x) → sideSum c i0 l = sideSum d i0 l := by
  induction l with
  | nil => intro i _; rfl
  | cons y r ih =>
    intro i h
    simp only [sideSum]
    rw [h i (Int.le_refl _) y (by simp), ih (i + 1) (fun j hj x hx => h j (by omega) x (by simp [hx]))]

theorem phi_total (s : Int) (l : List S47) : phi (hasB s) l = total s (-1) false false l - total s (-1) true true l := by
  unfold phi total
  rw [← side_sub]
  refine side_eq_from _ _ l 0 (fun i hi x _ => ?_)
  unfold ph contrib
  have hi' : ¬ i = -1 := by omega
  cases a : hasB s x.f0 <;> cases b : hasB s x.f1 <;> simp [hi']

theorem says_least (l : List S47) (k s : Int) : says false l k s = phiBut (fun p => !hasB s p) k l := by
  unfold says phiBut total
  simp only [Bool.false_eq_true, if_false]
  rw [← side_sub]
  refine side_eq _ _ l (fun i x _ => ?_) 0
  unfold phB ph contrib
  by_cases e : i = k
  · simp [e]
  · rcases Bool.eq_false_or_eq_true (hasB s x.f0) with a | a <;> rcases Bool.eq_false_or_eq_true (hasB s x.f1) with b | b <;> simp [e, a, b]
theorem says_most (l : List S47) (k s : Int) : says true l k s = - phiBut (hasB s) k l := by
  unfold says phiBut total
  simp only [if_true]
  rw [← side_sub, ← side_neg]
  refine side_eq _ _ l (fun i x _ => ?_) 0
  unfold phB ph contrib
  by_cases e : i = k
  · simp [e]
  · rcases Bool.eq_false_or_eq_true (hasB s x.f0) with a | a <;> rcases Bool.eq_false_or_eq_true (hasB s x.f1) with b | b <;> simp [e, a, b]

theorem cut_of_none (pl : Int) (l : List S47) (h8 : pl ≤ 8) (hl : GoodL pl l) (h : ∀ s ∈ setsL pl, wrongB l s = false) : Cut l := by
  intro X
  obtain ⟨s, hs, hX⟩ := code_of pl h8 X
  rw [← phi_congr (hasB s) X pl l hl hX, phi_total]
  have := h s hs
  unfold wrongB at this
  simp at this
  omega
theorem none_of_cut (l : List S47) (h : Cut l) (s : Int) : wrongB l s = false := by
  have := h (hasB s)
  rw [phi_total] at this
  unfold wrongB
  simp
  omega
theorem find_none {pl : Int} {l : List S47} (h : ((setsL pl).find? (wrongB l)).isSome = false) : ∀ s ∈ setsL pl, wrongB l s = false := by
  intro s hs
  have h1 : (setsL pl).find? (wrongB l) = none := by
    cases hf : (setsL pl).find? (wrongB l) with
    | none => rfl
    | some x => rw [hf] at h; cases h
  rw [List.find?_eq_none] at h1
  simpa using h1 s hs

theorem rd_good (pl : Int) (l : List S47) (hl : GoodL pl l) (k : Int) (h0 : 0 ≤ k) (h : k < l.length) : goodF pl (rd_T47 l k) := by
  obtain ⟨n, rfl⟩ := Int.eq_ofNat_of_zero_le h0
  refine hl _ ?_
  rw [rd_T45_eq _ _ (by omega)]
  exact List.getElem_mem _

/-- What the bounds are to the cuts. -/
theorem least_ge (pl : Int) (l : List S47) (h8 : pl ≤ 8) (hl : GoodL pl l) (k : Int) (h0 : 0 ≤ k) (h : k < l.length) (X : Int → Bool) (a : X (rd_T47 l k).f0 = true) (b : X (rd_T47 l k).f1 = false) : phiBut X k l ≤ (boundS false pl l k).1 := by
  have hg := rd_good pl l hl k h0 h
  unfold goodF at hg
  obtain ⟨s, hs, hX⟩ := code_of pl h8 (fun p => !X p)
  have h1 := (bound_spec false pl l k).2.2 s hs (by rw [hX _ (by omega) (by omega), b]; rfl) (by rw [hX _ (by omega) (by omega), a]; rfl)
  simp only [Bool.false_eq_true, if_false] at h1
  rw [says_least, phiBut_congr (fun p => !hasB s p) X pl k l hl (fun p p0 p1 => by rw [hX p p0 p1]; simp)] at h1
  exact h1
theorem most_le (pl : Int) (l : List S47) (h8 : pl ≤ 8) (hl : GoodL pl l) (k : Int) (h0 : 0 ≤ k) (h : k < l.length) (X : Int → Bool) (a : X (rd_T47 l k).f0 = false) (b : X (rd_T47 l k).f1 = true) : phiBut X k l ≤ - (boundS true pl l k).1 := by
  have hg := rd_good pl l hl k h0 h
  unfold goodF at hg
  obtain ⟨s, hs, hX⟩ := code_of pl h8 X
  have h1 := (bound_spec true pl l k).2.2 s hs (by rw [hX _ (by omega) (by omega), b]) (by rw [hX _ (by omega) (by omega), a])
  simp only [if_true] at h1
  rw [says_most, phiBut_congr (hasB s) X pl k l hl hX] at h1
  omega
theorem least_is (pl : Int) (l : List S47) (k : Int) : (boundS false pl l k).1 = (rd_T47 l k).f2.f0 ∨ ((boundS false pl l k).1 > (rd_T47 l k).f2.f0 ∧ ∃ X : Int → Bool, X (rd_T47 l k).f0 = true ∧ X (rd_T47 l k).f1 = false ∧ (boundS false pl l k).1 = phiBut X k l) := by
  obtain ⟨b1, b2, _⟩ := bound_spec false pl l k
  cases hb : (boundS false pl l k).2.2 with
  | false => exact .inl (by rw [b1 hb]; rfl)
  | true =>
    obtain ⟨_, h1, h0, hs, hlt⟩ := b2 hb
    refine .inr ⟨by simpa [first] using hlt, fun p => !hasB (boundS false pl l k).2.1 p, by simp [h0], by simp [h1], ?_⟩
    rw [← says_least, hs]
theorem most_is (pl : Int) (l : List S47) (k : Int) : (boundS true pl l k).1 = (rd_T47 l k).f2.f1 ∨ ((boundS true pl l k).1 < (rd_T47 l k).f2.f1 ∧ ∃ X : Int → Bool, X (rd_T47 l k).f0 = false ∧ X (rd_T47 l k).f1 = true ∧ (boundS true pl l k).1 = - phiBut X k l) := by
  obtain ⟨b1, b2, _⟩ := bound_spec true pl l k
  cases hb : (boundS true pl l k).2.2 with
  | false => exact .inl (by rw [b1 hb]; rfl)
  | true =>
    obtain ⟨_, h1, h0, hs, hlt⟩ := b2 hb
    refine .inr ⟨by simpa [first] using hlt, hasB (boundS true pl l k).2.1, h0, h1, ?_⟩
    rw [← says_most, hs]

theorem bounds_in (pl : Int) (l : List S47) (hl : GoodL pl l) (hc : Cut l) (k : Int) (h0 : 0 ≤ k) (h : k < l.length) :
    (rd_T47 l k).f2.f0 ≤ (boundS false pl l k).1 ∧ (boundS false pl l k).1 ≤ (boundS true pl l k).1 ∧ (boundS true pl l k).1 ≤ (rd_T47 l k).f2.f1 := by
  have hg := rd_good pl l hl k h0 h
  unfold goodF at hg
  have hle : ∀ x ∈ l, x.f2.f0 ≤ x.f2.f1 := fun x hx => by have := hl x hx; unfold goodF at this; omega
  refine ⟨?_, ?_, ?_⟩
  · rcases least_is pl l k with e | ⟨e, _⟩ <;> omega
  · rcases least_is pl l k with e | ⟨e, X, a, b, eX⟩ <;> rcases most_is pl l k with e' | ⟨e', Y, c, d, eY⟩
    · omega
    · have := phi_split Y k l h0 h
      have h2 := hc Y
      have h3 : ph Y (rd_T47 l k) = (rd_T47 l k).f2.f0 := by simp [ph, c, d]
      omega
    · have := phi_split X k l h0 h
      have h2 := hc X
      have h3 : ph X (rd_T47 l k) = - (rd_T47 l k).f2.f1 := by simp [ph, a, b]
      omega
    · have := cut_pair l hle hc k h0 h X Y a b c d
      omega
  · rcases most_is pl l k with e | ⟨e, _⟩ <;> omega

/-- A flow fixed anywhere within its bounds: the plant is good, and the cut condition holds. -/
theorem fix_good (pl : Int) (l : List S47) (hl : GoodL pl l) (k n : Int) (h0 : 0 ≤ k) (h : k < l.length) (h1 : (rd_T47 l k).f2.f0 ≤ n) (h2 : n ≤ (rd_T47 l k).f2.f1) : GoodL pl (fixL l k n) := by
  intro x hx
  have hg := rd_good pl l hl k h0 h
  unfold fixL at hx
  rcases List.mem_or_eq_of_mem_set hx with hx | rfl
  · exact hl x hx
  · unfold goodF at hg ⊢
    simp only
    omega
theorem fix_cut (pl : Int) (l : List S47) (h8 : pl ≤ 8) (hl : GoodL pl l) (hc : Cut l) (k n : Int) (h0 : 0 ≤ k) (h : k < l.length) (h1 : (boundS false pl l k).1 ≤ n) (h2 : n ≤ (boundS true pl l k).1) : Cut (fixL l k n) :=
  cut_fix l hc k n h0 h (fun X a b => Int.le_trans (least_ge pl l h8 hl k h0 h X a b) h1) (fun X a b => by have := most_le pl l h8 hl k h0 h X a b; omega)

theorem fixOne_fix (pl : Int) (cur : List S47) (i : Nat) : fixOne pl cur i = fixL cur i (boundS false pl cur i).1 := by
  unfold fixOne fixL
  rw [Int.toNat_natCast]

/-- All plants on the way to the first truth are good. -/
theorem fixes_good (pl : Int) (l : List S47) (h8 : pl ≤ 8) (hl : GoodL pl l) (hc : Cut l) : ∀ i : Nat, i ≤ l.length → GoodL pl (fixes pl l i) ∧ Cut (fixes pl l i)
  | 0, _ => ⟨hl, hc⟩
  | i + 1, hi => by
    obtain ⟨g, c⟩ := fixes_good pl l h8 hl hc i (by omega)
    have hlen := fixes_length pl l i
    have hb := bounds_in pl _ g c i (by omega) (by omega)
    simp only [fixes]
    rw [fixOne_fix]
    exact ⟨fix_good pl _ g i _ (by omega) (by omega) hb.1 (by omega), fix_cut pl _ h8 g c i _ (by omega) (by omega) (Int.le_refl _) hb.2.1⟩
end Go.Proofs.Ytalgbihpidpblaa.Print
