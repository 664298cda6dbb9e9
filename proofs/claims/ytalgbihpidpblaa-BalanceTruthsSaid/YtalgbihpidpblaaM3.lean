/- Truths of a plant (plain facts). -/
import Derived.Test.YtalgbihpidpblaaM2
namespace Go.Proofs.Ytalgbihpidpblaa.Print
open Go.RowKit Go.Shelf Go.Proofs.YtalgbihpidpblaaW.PrintWords Go.Proofs.YtalgbihpidpblaaW.PrintLast Go.Proofs.YtalgbihpidpblaaW.PrintMore
set_option linter.unusedVariables false
set_option linter.unusedSimpArgs false

def nx (X : Int → Bool) (x : S47) (n : Int) : Int := if X x.f0 = X x.f1 then 0 else if X x.f1 = true then n else - n
def net (X : Int → Bool) : List S47 → List Int → Int
  | x :: r, n :: q => nx X x n + net X r q
  | _, _ => 0
def inG : List S47 → List Int → Prop
  | [], [] => True
  | x :: r, n :: q => (x.f2.f0 ≤ n ∧ n ≤ x.f2.f1) ∧ inG r q
  | _, _ => False
/-- A truth. -/
def Tr (l : List S47) (t : List Int) : Prop := inG l t ∧ ∀ X, net X l t = 0

theorem inG_length : ∀ (l : List S47) (t : List Int), inG l t → t.length = l.length
  | [], [], _ => rfl
  | x :: r, n :: q, h => by simp [inG_length r q h.2]
theorem inG_at : ∀ (l : List S47) (t : List Int), inG l t → ∀ k : Nat, k < l.length → (rd_T47 l k).f2.f0 ≤ rd t k ∧ rd t k ≤ (rd_T47 l k).f2.f1
  | [], _, _, k, hk => by simp at hk
  | x :: r, n :: q, h, 0, _ => h.1
  | x :: r, n :: q, h, k + 1, hk => by
    have := inG_at r q h.2 k (by simpa using hk)
    simpa [rd_T47, rd] using this
theorem inG_of : ∀ (l : List S47) (t : List Int), t.length = l.length → (∀ k : Nat, k < l.length → (rd_T47 l k).f2.f0 ≤ rd t k ∧ rd t k ≤ (rd_T47 l k).f2.f1) → inG l t
  | [], [], _, _ => trivial
  | [], _ :: _, h, _ => by simp at h
  | _ :: _, [], h, _ => by simp at h
  | x :: r, n :: q, h, hk => by
    refine ⟨hk 0 (by simp), inG_of r q (by simpa using h) (fun k hk' => ?_)⟩
    have := hk (k + 1) (by simpa using hk')
    simpa [rd_T47, rd] using this

theorem ph_le (X : Int → Bool) (x : S47) (n : Int) (h : x.f2.f0 ≤ n ∧ n ≤ x.f2.f1) : ph X x ≤ nx X x n := by
  unfold ph nx
  split
  · omega
  · split <;> omega
theorem phi_cons (X : Int → Bool) (x : S47) (r : List S47) : phi X (x :: r) = ph X x + phi X r := by
  unfold phi
  simp only [sideSum]
  congr 1
  have hs : ∀ (m : List S47) (i j : Int), sideSum (fun _ x => ph X x) i m = sideSum (fun _ x => ph X x) j m := by
    intro m
    induction m with
    | nil => intro i j; rfl
    | cons y q ih => intro i j; simp only [sideSum]; rw [ih (i + 1) (j + 1)]
  exact hs r _ _
theorem phi_le_net (X : Int → Bool) : ∀ (l : List S47) (t : List Int), inG l t → phi X l ≤ net X l t
  | [], [], _ => Int.le_refl _
  | x :: r, n :: q, h => by
    have h1 := ph_le X x n h.1
    have h2 := phi_le_net X r q h.2
    rw [phi_cons]
    simp only [net]
    omega
theorem tr_cut (l : List S47) (t : List Int) (h : Tr l t) : Cut l := fun X => by
  have h1 := phi_le_net X l t h.1
  rw [h.2 X] at h1
  exact h1

theorem but_le_net (X : Int → Bool) : ∀ (l : List S47) (t : List Int), inG l t → ∀ (k i : Int), i ≤ k → k < i + l.length → sideSum (phB X k) i l ≤ net X l t - nx X (rd_T47 l (k - i)) (rd t (k - i))
  | [], [], _, k, i, h1, h2 => by simp at h2; omega
  | x :: r, n :: q, h, k, i, h1, h2 => by
    simp only [sideSum, net]
    by_cases e : i = k
    · subst e
      have hz : ∀ (m : List S47) (j : Int), i < j → sideSum (phB X i) j m = phi X m := by
        intro m
        induction m with
        | nil => intro j _; rfl
        | cons z s ih =>
          intro j hj
          rw [phi_cons]
          simp only [sideSum]
          rw [ih (j + 1) (by omega)]
          unfold phB
          rw [if_neg (by omega)]
      rw [hz r (i + 1) (by omega)]
      have := phi_le_net X r q h.2
      have e1 : phB X i i x = 0 := by unfold phB; rw [if_pos rfl]
      have e2 : rd_T47 (x :: r) (i - i) = x := by simp [rd_T47]
      have e3 : rd (n :: q) (i - i) = n := by simp [rd]
      rw [e1, e2, e3]
      omega
    · have ih := but_le_net X r q h.2 k (i + 1) (by omega) (by simp at h2; omega)
      have e0 : (k - i).toNat = (k - (i + 1)).toNat + 1 := by omega
      have e2 : rd_T47 (x :: r) (k - i) = rd_T47 r (k - (i + 1)) := by simp [rd_T47, e0]
      have e3 : rd (n :: q) (k - i) = rd q (k - (i + 1)) := by simp [rd, e0]
      have e1 : phB X k i x = ph X x := by unfold phB; rw [if_neg e]
      have h3 := ph_le X x n h.1
      rw [e1, e2, e3]
      omega

theorem tr_bounds (pl : Int) (l : List S47) (t : List Int) (h : Tr l t) (k : Nat) (hk : k < l.length) : (boundS false pl l k).1 ≤ rd t k ∧ rd t k ≤ (boundS true pl l k).1 := by
  have hin := inG_at l t h.1 k hk
  have hb := fun X => but_le_net X l t h.1 k 0 (by omega) (by omega)
  simp only [h.2, Int.sub_zero, Int.zero_sub] at hb
  constructor
  · rcases least_is pl l k with e | ⟨_, X, a, b, e⟩
    · omega
    · have := hb X
      have e2 : nx X (rd_T47 l k) (rd t k) = - rd t k := by simp [nx, a, b]
      rw [e2] at this
      unfold phiBut at e
      omega
  · rcases most_is pl l k with e | ⟨_, X, a, b, e⟩
    · omega
    · have := hb X
      have e2 : nx X (rd_T47 l k) (rd t k) = rd t k := by simp [nx, a, b]
      rw [e2] at this
      unfold phiBut at e
      omega

theorem net_set (X : Int → Bool) : ∀ (l : List S47) (t : List Int) (m : Nat) (s : S45), net X (l.set m { (l.getD m z47) with f2 := s }) t = net X l t
  | [], _, _, _ => by simp
  | x :: r, [], 0, s => by simp [net]
  | x :: r, [], m + 1, s => by simp [net]
  | x :: r, n :: q, 0, s => by
    simp only [List.set_cons_zero, net, List.getD_cons_zero]
    rfl
  | x :: r, n :: q, m + 1, s => by
    simp only [List.set_cons_succ, net, List.getD_cons_succ]
    rw [net_set X r q m s]
theorem net_fix (X : Int → Bool) (l : List S47) (t : List Int) (k n : Int) : net X (fixL l k n) t = net X l t := by
  unfold fixL rd_T47
  exact net_set X l t k.toNat ⟨n, n⟩

theorem tr_fix (l : List S47) (t : List Int) (h : Tr l t) (k : Nat) (hk : k < l.length) : Tr (fixL l k (rd t k)) t := by
  refine ⟨inG_of _ _ (by rw [fixL_length]; exact inG_length l t h.1) (fun j hj => ?_), fun X => by rw [net_fix]; exact h.2 X⟩
  rw [fixL_length] at hj
  by_cases e : (j : Int) = k
  · rw [e]
    unfold fixL
    rw [rd_set_same l k _ (by omega) (by omega)]
    simp
  · unfold fixL
    rw [rd_set_other l k j _ (by omega) (by omega) e]
    exact inG_at l t h.1 j hj
theorem tr_unfix (l : List S47) (t : List Int) (k : Nat) (hk : k < l.length) (n : Int) (h1 : (rd_T47 l k).f2.f0 ≤ n) (h2 : n ≤ (rd_T47 l k).f2.f1) (h : Tr (fixL l k n) t) : Tr l t ∧ rd t k = n := by
  have hk' := inG_at _ t h.1 k (by rw [fixL_length]; exact hk)
  unfold fixL at hk'
  rw [rd_set_same l k _ (by omega) (by omega)] at hk'
  simp only at hk'
  refine ⟨⟨inG_of _ _ (by rw [inG_length _ t h.1, fixL_length]) (fun j hj => ?_), fun X => by rw [← net_fix X l t k n]; exact h.2 X⟩, by omega⟩
  by_cases e : (j : Int) = k
  · rw [e]; omega
  · have := inG_at _ t h.1 j (by rw [fixL_length]; exact hj)
    unfold fixL at this
    rwa [rd_set_other l k j _ (by omega) (by omega) e] at this

theorem net_all (X : Int → Bool) : ∀ l : List S47, (∀ x ∈ l, x.f2.f0 = x.f2.f1) → net X l (l.map fun x => x.f2.f0) = phi X l
  | [], _ => rfl
  | x :: r, h => by
    rw [phi_cons]
    simp only [List.map_cons, net]
    rw [net_all X r (fun y hy => h y (by simp [hy]))]
    have e := h x (by simp)
    unfold ph nx
    rw [← e]
theorem phi_not (X : Int → Bool) : ∀ l : List S47, (∀ x ∈ l, x.f2.f0 = x.f2.f1) → phi (fun p => !X p) l = - phi X l
  | [], _ => rfl
  | x :: r, h => by
    rw [phi_cons, phi_cons, phi_not X r (fun y hy => h y (by simp [hy]))]
    have e := h x (by simp)
    have : ph (fun p => !X p) x = - ph X x := by
      simp only [ph]
      rcases Bool.eq_false_or_eq_true (X x.f0) with a | a <;> rcases Bool.eq_false_or_eq_true (X x.f1) with b | b <;> simp [a, b, e]
    omega
theorem inG_all : ∀ l : List S47, (∀ x ∈ l, x.f2.f0 = x.f2.f1) → inG l (l.map fun x => x.f2.f0)
  | [], _ => trivial
  | x :: r, h => ⟨⟨Int.le_refl _, Int.le_of_eq (h x (by simp))⟩, inG_all r (fun y hy => h y (by simp [hy]))⟩
theorem tr_all (l : List S47) (hc : Cut l) (h : ∀ x ∈ l, x.f2.f0 = x.f2.f1) : Tr l (l.map fun x => x.f2.f0) := by
  refine ⟨inG_all l h, fun X => ?_⟩
  rw [net_all X l h]
  have h1 := hc X
  have h2 := hc (fun p => !X p)
  rw [phi_not X l h] at h2
  omega

/-! ### The first truth -/
theorem fixes_at (pl : Int) (l : List S47) : ∀ (i : Nat), i ≤ l.length → ∀ j : Nat, j < l.length →
    (j < i → (rd_T47 (fixes pl l i) j).f2.f0 = rd (truthL pl l i) j ∧ (rd_T47 (fixes pl l i) j).f2.f1 = rd (truthL pl l i) j) ∧ (i ≤ j → rd_T47 (fixes pl l i) j = rd_T47 l j)
  | 0, _, j, _ => ⟨fun h => by omega, fun _ => rfl⟩
  | i + 1, hi, j, hj => by
    have ih := fixes_at pl l i (by omega) j hj
    have hlen := fixes_length pl l i
    have htl := truthL_length pl l i
    simp only [fixes]
    rw [fixOne_fix]
    refine ⟨fun h => ?_, fun h => ?_⟩
    · by_cases e : j = i
      · subst e
        unfold fixL
        rw [rd_set_same _ _ _ (by omega) (by omega)]
        have : rd (truthL pl l (j + 1)) (j : Int) = (boundS false pl (fixes pl l j) j).1 := by simp [truthL, rd, htl]
        rw [this]
        exact ⟨rfl, rfl⟩
      · unfold fixL
        rw [rd_set_other _ _ _ _ (by omega) (by omega) (by omega)]
        have : rd (truthL pl l (i + 1)) (j : Int) = rd (truthL pl l i) j := by
          have hj' : j < (truthL pl l i).length := by omega
          simp [truthL, rd, List.getElem?_append_left hj']
        rw [this]
        exact ih.1 (by omega)
    · unfold fixL
      rw [rd_set_other _ _ _ _ (by omega) (by omega) (by omega)]
      exact ih.2 (by omega)

theorem rd_at (xs : List Int) (i : Nat) (h : i < xs.length) : rd xs i = xs[i] := by simp [rd, List.getD_eq_getElem?_getD, h]

theorem truth_is (pl : Int) (l : List S47) (h8 : pl ≤ 8) (hl : GoodL pl l) (hc : Cut l) : Tr l (truthL pl l l.length) := by
  have hg := fixes_good pl l h8 hl hc
  have hend : Tr (fixes pl l l.length) (truthL pl l l.length) := by
    have hlen := fixes_length pl l l.length
    have htl := truthL_length pl l l.length
    have hfix : ∀ x ∈ fixes pl l l.length, x.f2.f0 = x.f2.f1 := by
      intro x hx
      obtain ⟨j, hj, rfl⟩ := List.getElem_of_mem hx
      have := (fixes_at pl l l.length (Nat.le_refl _) j (by omega)).1 (by omega)
      rw [rd_T45_eq _ _ hj] at this
      omega
    have := tr_all _ (hg l.length (Nat.le_refl _)).2 hfix
    have e : (fixes pl l l.length).map (fun x => x.f2.f0) = truthL pl l l.length := by
      apply List.ext_getElem
      · simp [hlen, htl]
      · intro j h1 h2
        have hj : j < (fixes pl l l.length).length := by simpa using h1
        have := (fixes_at pl l l.length (Nat.le_refl _) j (by omega)).1 (by omega)
        rw [rd_T45_eq _ _ hj, rd_at _ _ h2] at this
        simpa using this.1
    rwa [e] at this
  have back : ∀ i, i ≤ l.length → Tr (fixes pl l i) (truthL pl l l.length) → Tr l (truthL pl l l.length) := by
    intro i
    induction i with
    | zero => intro _ h; exact h
    | succ i ih =>
      intro hi h
      have hlen := fixes_length pl l i
      obtain ⟨g, c⟩ := hg i (by omega)
      have hb := bounds_in pl _ g c i (by omega) (by omega)
      simp only [fixes] at h
      rw [fixOne_fix] at h
      exact ih (by omega) (tr_unfix _ _ i (by omega) _ hb.1 (by omega) h).1
  exact back l.length (Nat.le_refl _) hend

/-- There is a truth with any number of a flow between its bounds. -/
theorem truth_with (pl : Int) (l : List S47) (h8 : pl ≤ 8) (hl : GoodL pl l) (hc : Cut l) (k : Nat) (hk : k < l.length) (n : Int) (h1 : (boundS false pl l k).1 ≤ n) (h2 : n ≤ (boundS true pl l k).1) : ∃ t, Tr l t ∧ rd t k = n := by
  have hb := bounds_in pl l hl hc k (by omega) (by omega)
  have ht := truth_is pl (fixL l k n) h8 (fix_good pl l hl k n (by omega) (by omega) (by omega) (by omega)) (fix_cut pl l h8 hl hc k n (by omega) (by omega) h1 h2)
  exact ⟨_, tr_unfix l _ k hk n (by omega) (by omega) ht⟩

/-- No truth comes before the first one. -/
theorem truth_first (pl : Int) (l : List S47) (h8 : pl ≤ 8) (hl : GoodL pl l) (t : List Int) (ht : Tr l t) : ∀ i : Nat, i < l.length → (∀ j : Nat, j < i → rd t j = rd (truthL pl l l.length) j) → rd (truthL pl l l.length) i ≤ rd t i := by
  have hpre : ∀ (m i : Nat), i ≤ m → ∀ j : Nat, j < i → rd (truthL pl l m) j = rd (truthL pl l i) j := by
    intro m
    induction m with
    | zero => intro i hi j hj; omega
    | succ m ih =>
      intro i hi j hj
      by_cases e : i = m + 1
      · rw [e]
      · rw [← ih i (by omega) j hj]
        have hj' : j < (truthL pl l m).length := by rw [truthL_length]; omega
        simp [truthL, rd, List.getElem?_append_left hj']
  have hfix : ∀ i : Nat, i ≤ l.length → (∀ j : Nat, j < i → rd t j = rd (truthL pl l l.length) j) → Tr (fixes pl l i) t := by
    intro i
    induction i with
    | zero => intro _ _; exact ht
    | succ i ih =>
      intro hi h
      have h1 := ih (by omega) (fun j hj => h j (by omega))
      have hlen := fixes_length pl l i
      have h2 := tr_fix _ t h1 i (by omega)
      have e : rd t i = (boundS false pl (fixes pl l i) i).1 := by
        rw [h i (by omega), hpre l.length (i + 1) hi i (by omega)]
        have htl := truthL_length pl l i
        simp [truthL, rd, htl]
      rw [e] at h2
      simp only [fixes]
      rwa [fixOne_fix]
  intro i hi h
  have hlen := fixes_length pl l i
  have h1 := tr_bounds pl _ t (hfix i (by omega) h) i (by omega)
  have e : rd (truthL pl l l.length) i = (boundS false pl (fixes pl l i) i).1 := by
    rw [hpre l.length (i + 1) (by omega) i (by omega)]
    have htl := truthL_length pl l i
    simp [truthL, rd, htl]
  rw [e]
  exact h1.1
end Go.Proofs.Ytalgbihpidpblaa.Print
