/- Plain facts on sets of places and on bounds. -/
import Derived.Test.YtalgbihpidpblaaHH
namespace Go.Proofs.Ytalgbihpidpblaa.Print
open Go.RowKit Go.Shelf Go.Proofs.YtalgbihpidpblaaW.PrintWords Go.Proofs.YtalgbihpidpblaaW.PrintLast Go.Proofs.YtalgbihpidpblaaW.PrintMore
set_option linter.unusedVariables false
set_option linter.unusedSimpArgs false

set_option maxRecDepth 100000 in
theorem bits_table : ((List.range 256).all fun s => (List.range 8).all fun p => hasB (s : Int) (p : Int) == s.testBit p) = true := by kernel_rfl
theorem hasB_bit (s p : Nat) (hs : s < 256) (hp : p < 8) : hasB (s : Int) (p : Int) = s.testBit p := by
  have h := bits_table
  rw [List.all_eq_true] at h
  have h1 := h s (List.mem_range.2 hs)
  rw [List.all_eq_true] at h1
  simpa using h1 p (List.mem_range.2 hp)

theorem setsL_mem (pl s : Int) : s ∈ setsL pl ↔ 0 ≤ s ∧ s < ((2 ^ pl.toNat : Nat) : Int) := by
  unfold setsL
  constructor
  · intro h
    obtain ⟨n, hn, rfl⟩ := List.mem_map.1 h
    have := List.mem_range.1 hn
    omega
  · rintro ⟨h0, h1⟩
    obtain ⟨n, rfl⟩ := Int.eq_ofNat_of_zero_le h0
    exact List.mem_map.2 ⟨n, List.mem_range.2 (by omega), rfl⟩

theorem pow_le (pl : Int) (h8 : pl ≤ 8) : 2 ^ pl.toNat ≤ 256 := by
  have : pl.toNat ≤ 8 := by omega
  exact Nat.le_trans (Nat.pow_le_pow_right (by decide) this) (by decide)

theorem hasB_high (pl s p : Int) (h8 : pl ≤ 8) (hs : s ∈ setsL pl) (h0 : 0 ≤ p) (hp : p < 8) (h : hasB s p = true) : p < pl := by
  rw [setsL_mem] at hs
  have hpw := pow_le pl h8
  obtain ⟨n, rfl⟩ := Int.eq_ofNat_of_zero_le hs.1
  obtain ⟨q, rfl⟩ := Int.eq_ofNat_of_zero_le h0
  rw [hasB_bit n q (by omega) (by omega)] at h
  have hn : n < 2 ^ pl.toNat := by omega
  rcases Nat.lt_or_ge q pl.toNat with h1 | h1
  · omega
  · rw [Nat.testBit_lt_two_pow (Nat.lt_of_lt_of_le hn (Nat.pow_le_pow_right (by decide) h1))] at h
    exact absurd h (by decide)

theorem listS_mem (s p : Int) : p ∈ listS s ↔ (0 ≤ p ∧ p < 8) ∧ hasB s p = true := by
  unfold listS
  rw [List.mem_filter]
  refine and_congr_left fun _ => ?_
  simp only [List.mem_cons, List.not_mem_nil, or_false]
  omega
theorem listS_sorted (s : Int) : (listS s).Pairwise (· < ·) :=
  List.Pairwise.filter _ (by decide)

theorem list_rd (pl s : Int) (h8 : pl ≤ 8) (hs : s ∈ setsL pl) (k : Int) (h0 : 0 ≤ k) (hk : k < (listS s).length) : 0 ≤ rd (listS s) k ∧ rd (listS s) k < pl := by
  have := (listS_mem s _).1 (rd_mem (listS s) k h0 hk)
  exact ⟨this.1.1, hasB_high pl s _ h8 hs this.1.1 this.1.2 this.2⟩
theorem list_up (s : Int) (k : Int) (h0 : 0 < k) (hk : k < (listS s).length) : rd (listS s) (k - 1) < rd (listS s) k := by
  obtain ⟨n, rfl⟩ := Int.eq_ofNat_of_zero_le (Int.le_of_lt h0)
  obtain ⟨m, rfl⟩ : ∃ m, n = m + 1 := ⟨n - 1, by omega⟩
  have hm : m + 1 < (listS s).length := by omega
  have e1 : rd (listS s) ((m + 1 : Nat) : Int) = (listS s)[m + 1] := by simp [rd, List.getD_eq_getElem?_getD, hm]
  have e2 : rd (listS s) (((m + 1 : Nat) : Int) - 1) = (listS s)[m] := by
    rw [show ((m + 1 : Nat) : Int) - 1 = (m : Int) from by omega]
    simp [rd, List.getD_eq_getElem?_getD, Nat.lt_of_succ_lt hm]
  rw [e1, e2]
  exact (List.pairwise_iff_getElem.1 (listS_sorted s)) m (m + 1) _ _ (by omega)
theorem list_len (s : Int) : (listS s).length ≤ 8 := by
  unfold listS
  exact Nat.le_trans (List.length_filter_le _ _) (by decide)

theorem side_eq (c d : Int → S47 → Int) (l : List S47) (h : ∀ i, ∀ x ∈ l, c i x = d i x) : ∀ i, sideSum c i l = sideSum d i l := by
  induction l with
  | nil => intro i; rfl
  | cons y r ih =>
    intro i
    simp only [sideSum]
    rw [h i y (by simp), ih (fun i x hx => h i x (by simp [hx])) (i + 1)]
/-! ### The bound -/
theorem bound_fold (m : Bool) (l : List S47) (k : Int) (S : List Int) : ∀ (st : Int × Int × Bool) (pre : List Int),
    (st.2.2 = false → st = first m l k) → (st.2.2 = true → st.2.1 ∈ pre ∧ hasB st.2.1 (rd_T47 l k).f1 = true ∧ hasB st.2.1 (rd_T47 l k).f0 = false ∧ says m l k st.2.1 = st.1 ∧ (if m then st.1 < (first m l k).1 else st.1 > (first m l k).1)) →
    (∀ s ∈ pre, hasB s (rd_T47 l k).f1 = true → hasB s (rd_T47 l k).f0 = false → if m then st.1 ≤ says m l k s else says m l k s ≤ st.1) →
    let r := S.foldl (step m l k) st
    (r.2.2 = false → r = first m l k) ∧ (r.2.2 = true → r.2.1 ∈ pre ++ S ∧ hasB r.2.1 (rd_T47 l k).f1 = true ∧ hasB r.2.1 (rd_T47 l k).f0 = false ∧ says m l k r.2.1 = r.1 ∧ (if m then r.1 < (first m l k).1 else r.1 > (first m l k).1)) ∧
    (∀ s ∈ pre ++ S, hasB s (rd_T47 l k).f1 = true → hasB s (rd_T47 l k).f0 = false → if m then r.1 ≤ says m l k s else says m l k s ≤ r.1) := by
  induction S with
  | nil =>
    intro st pre h1 h2 h3
    simp only [List.foldl_nil, List.append_nil]
    exact ⟨h1, h2, h3⟩
  | cons s r ih =>
    intro st pre h1 h2 h3
    simp only [List.foldl_cons]
    have e : pre ++ s :: r = (pre ++ [s]) ++ r := by simp
    rw [e]
    apply ih
    · by_cases hc : hasB s (rd_T47 l k).f1 = true ∧ hasB s (rd_T47 l k).f0 = false ∧ (if m then says m l k s < st.1 else says m l k s > st.1)
      · rw [step, if_pos hc]
        intro h
        cases h
      · rw [step, if_neg hc]
        exact h1
    · by_cases hc : hasB s (rd_T47 l k).f1 = true ∧ hasB s (rd_T47 l k).f0 = false ∧ (if m then says m l k s < st.1 else says m l k s > st.1)
      · rw [step, if_pos hc]
        intro _
        refine ⟨by simp, hc.1, hc.2.1, rfl, ?_⟩
        have hst : (if m then st.1 ≤ (first m l k).1 else st.1 ≥ (first m l k).1) := by
          cases hb : st.2.2 with
          | false => rw [h1 hb]; cases m <;> simp
          | true =>
            have := (h2 hb).2.2.2.2
            cases m
            · simp at this ⊢; omega
            · simp at this ⊢; omega
        have := hc.2.2
        cases m
        · simp at this hst ⊢; omega
        · simp at this hst ⊢; omega
      · rw [step, if_neg hc]
        intro hb
        obtain ⟨a, b⟩ := h2 hb
        exact ⟨by simp [a], b⟩
    · intro x hx h4 h5
      have hx' : x ∈ pre ∨ x = s := by simpa using hx
      by_cases hc : hasB s (rd_T47 l k).f1 = true ∧ hasB s (rd_T47 l k).f0 = false ∧ (if m then says m l k s < st.1 else says m l k s > st.1)
      · rw [step, if_pos hc]
        rcases hx' with hx' | rfl
        · have := h3 x hx' h4 h5
          have hc2 := hc.2.2
          cases m
          · simp at this hc2 ⊢; omega
          · simp at this hc2 ⊢; omega
        · cases m <;> simp
      · rw [step, if_neg hc]
        rcases hx' with hx' | rfl
        · exact h3 x hx' h4 h5
        · have hc2 : ¬ (if m then says m l k x < st.1 else says m l k x > st.1) := fun h => hc ⟨h4, h5, h⟩
          cases m
          · simp at hc2 ⊢; omega
          · simp at hc2 ⊢; omega

theorem bound_spec (m : Bool) (pl : Int) (l : List S47) (k : Int) :
    ((boundS m pl l k).2.2 = false → boundS m pl l k = first m l k) ∧
    ((boundS m pl l k).2.2 = true → (boundS m pl l k).2.1 ∈ setsL pl ∧ hasB (boundS m pl l k).2.1 (rd_T47 l k).f1 = true ∧ hasB (boundS m pl l k).2.1 (rd_T47 l k).f0 = false ∧ says m l k (boundS m pl l k).2.1 = (boundS m pl l k).1 ∧ (if m then (boundS m pl l k).1 < (first m l k).1 else (boundS m pl l k).1 > (first m l k).1)) ∧
    (∀ s ∈ setsL pl, hasB s (rd_T47 l k).f1 = true → hasB s (rd_T47 l k).f0 = false → if m then (boundS m pl l k).1 ≤ says m l k s else says m l k s ≤ (boundS m pl l k).1) := by
  have := bound_fold m l k (setsL pl) (first m l k) [] (fun _ => rfl) (fun h => by simp [first] at h) (fun s hs => by cases hs)
  simpa [boundS] using this
end Go.Proofs.Ytalgbihpidpblaa.Print
