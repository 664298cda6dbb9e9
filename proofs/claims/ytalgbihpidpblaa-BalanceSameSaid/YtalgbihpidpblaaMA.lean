/- BalanceSame, as plain facts: the order of the flows, a flow of 0, and tight spans in place of all Gas. -/
import Derived.Test.YtalgbihpidpblaaM6
namespace Go.Proofs.Ytalgbihpidpblaa.Print
open Go.RowKit Go.Shelf Go.Proofs.YtalgbihpidpblaaW.PrintWords Go.Proofs.YtalgbihpidpblaaW.PrintLast Go.Proofs.YtalgbihpidpblaaW.PrintMore
set_option linter.unusedVariables false
set_option linter.unusedSimpArgs false

theorem phi_append (X : Int → Bool) : ∀ l r : List S47, phi X (l ++ r) = phi X l + phi X r
  | [], r => by simp [phi, sideSum]
  | x :: l, r => by rw [List.cons_append, phi_cons, phi_cons, phi_append X l r]; omega
/-- The flows, in another order: from some flow on, and then those before it. -/
def turnL (l : List S47) (t : Int) : List S47 := (List.range l.length).map fun i : Nat => rd_T47 l (((i : Int) + t) % (l.length : Int))
theorem turnL_len (l : List S47) (t : Int) : (turnL l t).length = l.length := by simp [turnL]
theorem turn_idx (n : Nat) (i : Nat) (t : Int) (j : Nat) (hn : 0 < n) (hj : t % (n : Int) = (j : Int)) (hi : i < n) : ((i : Int) + t) % (n : Int) = if i + j < n then ((i + j : Nat) : Int) else ((i + j - n : Nat) : Int) := by
  have hjn : j < n := by
    have := Int.emod_lt_of_pos t (show (0 : Int) < (n : Int) by omega)
    omega
  rw [Int.add_emod, hj, Int.emod_eq_of_lt (a := (i : Int)) (by omega) (by omega)]
  split
  · exact Int.emod_eq_of_lt (by omega) (by omega)
  · rw [show (i : Int) + (j : Int) = ((i + j - n : Nat) : Int) + (n : Int) by omega, Int.add_emod_right]
    exact Int.emod_eq_of_lt (by omega) (by omega)
theorem turn_eq (l : List S47) (t : Int) (j : Nat) (hj : t % (l.length : Int) = (j : Int)) (h : 0 < l.length) : turnL l t = l.drop j ++ l.take j := by
  have hjn : j < l.length := by
    have := Int.emod_lt_of_pos t (show (0 : Int) < (l.length : Int) by omega)
    omega
  apply List.ext_getElem
  · simp [turnL]; omega
  · intro i h1 h2
    have hi : i < l.length := by simpa [turnL] using h1
    have e : (turnL l t)[i] = rd_T47 l (((i : Int) + t) % (l.length : Int)) := by simp [turnL]
    rw [e, turn_idx l.length i t j h hj hi]
    by_cases hc : i + j < l.length
    · rw [if_pos hc, rd_T45_eq _ _ hc, List.getElem_append_left (by simp; omega)]
      simp [Nat.add_comm]
    · rw [if_neg hc, rd_T45_eq _ _ (by omega), List.getElem_append_right (by simp; omega)]
      simp only [List.length_drop, List.getElem_take]
      congr 1
      omega
theorem turn_phi (X : Int → Bool) (l : List S47) (t : Int) : phi X (turnL l t) = phi X l := by
  by_cases h : 0 < l.length
  · obtain ⟨j, hj⟩ := Int.eq_ofNat_of_zero_le (Int.emod_nonneg t (show (l.length : Int) ≠ 0 by omega))
    rw [turn_eq l t j hj h, phi_append]
    have := phi_append X (l.take j) (l.drop j)
    rw [List.take_append_drop] at this
    omega
  · obtain rfl := List.eq_nil_of_length_eq_zero (show l.length = 0 by omega)
    rfl
theorem turn_rd (l : List S47) (t : Int) (k : Nat) (hk : k < l.length) : rd_T47 (turnL l t) k = rd_T47 l (((k : Int) + t) % (l.length : Int)) := by
  rw [rd_T45_eq _ _ (by rw [turnL_len]; exact hk)]
  simp [turnL]

/-! ### What hangs on the sums alone -/
theorem wrong_phi (l : List S47) (s : Int) : wrongB l s = decide (0 < phi (hasB s) l) := by
  unfold wrongB
  rw [phi_total]
  by_cases h : total s (-1) false false l > total s (-1) true true l
  · rw [decide_eq_true h, decide_eq_true (by omega)]
  · rw [decide_eq_false h, decide_eq_false (by omega)]
theorem wrong_same {l r : List S47} (h : ∀ X, phi X l = phi X r) : wrongB l = wrongB r := by
  funext s
  rw [wrong_phi, wrong_phi, h]
theorem cut_same {l r : List S47} (h : ∀ X, phi X l = phi X r) : Cut l ↔ Cut r := by
  unfold Cut
  simp only [h]
theorem says_phi (m : Bool) (l : List S47) (k : Nat) (hk : k < l.length) (s : Int) : says m l k s = if m then ph (hasB s) (rd_T47 l k) - phi (hasB s) l else phi (fun p => !hasB s p) l - ph (fun p => !hasB s p) (rd_T47 l k) := by
  cases m with
  | true =>
    rw [says_most, if_pos rfl, phi_split (hasB s) k l (by omega) (by omega)]
    omega
  | false =>
    rw [says_least, if_neg (by decide), phi_split (fun p => !hasB s p) k l (by omega) (by omega)]
    omega
theorem bound_same (m : Bool) (pl : Int) (l r : List S47) (h : ∀ X, phi X l = phi X r) (k j : Nat) (hk : k < l.length) (hj : j < r.length) (e : rd_T47 l k = rd_T47 r j) : boundS m pl l k = boundS m pl r j := by
  have es : step m l k = step m r j := by
    funext st s
    unfold step
    rw [says_phi m l k hk, says_phi m r j hj, h, h, e]
  have ef : first m l k = first m r j := by
    unfold first
    rw [e]
  unfold boundS
  rw [es, ef]

/-! ### Another order -/
theorem turn_good (pl : Int) (l : List S47) (t : Int) (hp : isPlantB pl l = true) : isPlantB pl (turnL l t) = true := by
  obtain ⟨h2, h8, h16, hg⟩ := plant_of pl l hp
  refine good_plant pl _ h2 h8 (by rw [turnL_len]; exact h16) (fun x hx => ?_)
  obtain ⟨i, hi, rfl⟩ := List.mem_map.1 hx
  have hi' := List.mem_range.1 hi
  exact rd_good pl l hg _ (Int.emod_nonneg _ (by omega)) (Int.emod_lt_of_pos _ (by omega))
theorem turn_tight (pl : Int) (l : List S47) (t : Int) (k : Nat) (hk : k < l.length) : tightAt pl (turnL l t) k = rd_T45 (tightL pl l) (((k : Int) + t) % (l.length : Int)) := by
  obtain ⟨j, hj⟩ := Int.eq_ofNat_of_zero_le (Int.emod_nonneg ((k : Int) + t) (show (l.length : Int) ≠ 0 by omega))
  have hjl : j < l.length := by
    have := Int.emod_lt_of_pos ((k : Int) + t) (show (0 : Int) < (l.length : Int) by omega)
    omega
  have e := turn_rd l t k hk
  rw [hj] at e ⊢
  rw [tightL_rd pl l j hjl]
  unfold tightAt
  have h := fun X => turn_phi X l t
  have hk' : k < (turnL l t).length := by rw [turnL_len]; exact hk
  rw [bound_same false pl _ _ h k j hk' hjl e, bound_same true pl _ _ h k j hk' hjl e]

/-! ### A flow more, of 0 -/
theorem ph_zero (X : Int → Bool) (a b : Int) : ph X ⟨a, b, ⟨0, 0⟩⟩ = 0 := by
  unfold ph
  split
  · rfl
  · split <;> rfl
theorem more_phi (X : Int → Bool) (l : List S47) (a b : Int) : phi X (l ++ [⟨a, b, ⟨0, 0⟩⟩]) = phi X l := by
  rw [phi_append, phi_cons, ph_zero]
  simp [phi, sideSum]
theorem more_good (pl : Int) (l : List S47) (a b : Int) (hp : isPlantB pl l = true) (h15 : l.length < 16) (ha : 0 ≤ a ∧ a < pl) (hb : 0 ≤ b ∧ b < pl) (hab : a ≠ b) : isPlantB pl (l ++ [⟨a, b, ⟨0, 0⟩⟩]) = true := by
  obtain ⟨h2, h8, h16, hg⟩ := plant_of pl l hp
  refine good_plant pl _ h2 h8 (by simp; omega) (fun x hx => ?_)
  rcases List.mem_append.1 hx with hx | hx
  · exact hg x hx
  · obtain rfl := List.mem_singleton.1 hx
    exact ⟨ha.1, ha.2, hb.1, hb.2, hab, Int.le_refl _, Int.le_refl _, (by decide : (0 : Int) ≤ 1073741824)⟩
theorem more_tight (pl : Int) (l : List S47) (a b : Int) (k : Nat) (hk : k < l.length) : tightAt pl (l ++ [⟨a, b, ⟨0, 0⟩⟩]) k = tightAt pl l k := by
  have e : rd_T47 (l ++ [⟨a, b, ⟨0, 0⟩⟩]) k = rd_T47 l k := by
    rw [rd_T45_eq _ _ (by simp; omega), rd_T45_eq _ _ hk, List.getElem_append_left hk]
  have h := fun X => more_phi X l a b
  have hk' : k < (l ++ [(⟨a, b, ⟨0, 0⟩⟩ : S47)]).length := by simp; omega
  unfold tightAt
  rw [bound_same false pl _ _ h k k hk' hk e, bound_same true pl _ _ h k k hk' hk e]
theorem more_last (pl : Int) (l : List S47) (a b : Int) (hp : isPlantB pl (l ++ [⟨a, b, ⟨0, 0⟩⟩]) = true) (hc : Cut (l ++ [⟨a, b, ⟨0, 0⟩⟩])) : tightAt pl (l ++ [⟨a, b, ⟨0, 0⟩⟩]) l.length = ⟨0, 0⟩ := by
  obtain ⟨h2, h8, h16, hg⟩ := plant_of pl _ hp
  have hk : l.length < (l ++ [(⟨a, b, ⟨0, 0⟩⟩ : S47)]).length := by simp
  have e : rd_T47 (l ++ [⟨a, b, ⟨0, 0⟩⟩]) (l.length : Nat) = ⟨a, b, ⟨0, 0⟩⟩ := by
    rw [rd_T45_eq _ _ hk]
    simp
  have hb := bounds_in pl _ hg hc (l.length : Nat) (by omega) (by omega)
  rw [e] at hb
  have hb' : (0 : Int) ≤ (boundS false pl (l ++ [⟨a, b, ⟨0, 0⟩⟩]) (l.length : Nat)).1 ∧ (boundS false pl (l ++ [⟨a, b, ⟨0, 0⟩⟩]) (l.length : Nat)).1 ≤ (boundS true pl (l ++ [⟨a, b, ⟨0, 0⟩⟩]) (l.length : Nat)).1 ∧ (boundS true pl (l ++ [⟨a, b, ⟨0, 0⟩⟩]) (l.length : Nat)).1 ≤ (0 : Int) := hb
  unfold tightAt
  congr 1
  · omega
  · omega

/-! ### Tight spans in the place of all Gas -/
def gasL (pl : Int) (l : List S47) : List S47 := (List.range l.length).map fun i : Nat => { rd_T47 l i with f2 := tightAt pl l i }
theorem gasL_len (pl : Int) (l : List S47) : (gasL pl l).length = l.length := by simp [gasL]
theorem gasL_rd (pl : Int) (l : List S47) (k : Nat) (hk : k < l.length) : rd_T47 (gasL pl l) k = { rd_T47 l k with f2 := tightAt pl l k } := by
  rw [rd_T45_eq _ _ (by rw [gasL_len]; exact hk)]
  simp [gasL]
theorem net_ends (X : Int → Bool) : ∀ (l r : List S47) (t : List Int), l.length = r.length → (∀ k : Nat, k < l.length → (rd_T47 l k).f0 = (rd_T47 r k).f0 ∧ (rd_T47 l k).f1 = (rd_T47 r k).f1) → net X l t = net X r t
  | [], [], _, _, _ => rfl
  | [], _ :: _, _, h, _ => by simp at h
  | _ :: _, [], _, h, _ => by simp at h
  | x :: l, y :: r, [], _, _ => rfl
  | x :: l, y :: r, n :: t, h, hk => by
    have h0 := hk 0 (by simp)
    have e0 : rd_T47 (x :: l) ((0 : Nat) : Int) = x := by simp [rd_T47]
    have e1 : rd_T47 (y :: r) ((0 : Nat) : Int) = y := by simp [rd_T47]
    rw [e0, e1] at h0
    simp only [net]
    have hx : nx X x n = nx X y n := by unfold nx; rw [h0.1, h0.2]
    rw [hx, net_ends X l r t (by simpa using h) (fun k hk' => ?_)]
    have := hk (k + 1) (by simp; omega)
    have e2 : rd_T47 (x :: l) ((k + 1 : Nat) : Int) = rd_T47 l k := by simp [rd_T47]
    have e3 : rd_T47 (y :: r) ((k + 1 : Nat) : Int) = rd_T47 r k := by simp [rd_T47]
    rwa [e2, e3] at this
theorem gas_truth (pl : Int) (l : List S47) (hp : isPlantB pl l = true) (hc : Cut l) (t : List Int) : Tr (gasL pl l) t ↔ Tr l t := by
  have hg : GoodL pl l := (plant_of pl l hp).2.2.2
  have hn : ∀ X, net X (gasL pl l) t = net X l t := fun X => net_ends X _ _ t (gasL_len pl l) (fun k hk => by
    rw [gasL_len] at hk
    rw [gasL_rd pl l k hk]
    exact ⟨rfl, rfl⟩)
  constructor
  · intro h
    refine ⟨inG_of l t (by rw [inG_length _ _ h.1, gasL_len]) (fun k hk => ?_), fun X => by rw [← hn X]; exact h.2 X⟩
    have h1 := inG_at _ _ h.1 k (by rw [gasL_len]; exact hk)
    rw [gasL_rd pl l k hk] at h1
    have h1' : (boundS false pl l k).1 ≤ rd t k ∧ rd t k ≤ (boundS true pl l k).1 := h1
    have hb := bounds_in pl l hg hc k (by omega) (by omega)
    omega
  · intro h
    refine ⟨inG_of _ t (by rw [inG_length _ _ h.1, gasL_len]) (fun k hk => ?_), fun X => by rw [hn X]; exact h.2 X⟩
    rw [gasL_len] at hk
    rw [gasL_rd pl l k hk]
    exact tr_bounds pl l t h k hk
theorem gas_good (pl : Int) (l : List S47) (hp : isPlantB pl l = true) (hc : Cut l) : isPlantB pl (gasL pl l) = true := by
  obtain ⟨h2, h8, h16, hg⟩ := plant_of pl l hp
  refine good_plant pl _ h2 h8 (by rw [gasL_len]; exact h16) (fun x hx => ?_)
  obtain ⟨k, hk, rfl⟩ := List.mem_map.1 hx
  have hk' := List.mem_range.1 hk
  have hb := bounds_in pl l hg hc k (by omega) (by omega)
  have hr := rd_good pl l hg k (by omega) (by omega)
  unfold goodF at hr ⊢
  refine ⟨hr.1, hr.2.1, hr.2.2.1, hr.2.2.2.1, hr.2.2.2.2.1, ?_, ?_, ?_⟩
  · show 0 ≤ (boundS false pl l k).1; omega
  · show (boundS false pl l k).1 ≤ (boundS true pl l k).1; omega
  · show (boundS true pl l k).1 ≤ 1073741824; omega
theorem gas_cut (pl : Int) (l : List S47) (hp : isPlantB pl l = true) (hc : Cut l) : Cut (gasL pl l) :=
  tr_cut _ _ ((gas_truth pl l hp hc _).2 (truth_is pl l (plant_of pl l hp).2.1 (plant_of pl l hp).2.2.2 hc))
theorem gas_tight (pl : Int) (l : List S47) (hp : isPlantB pl l = true) (hc : Cut l) : tightL pl (gasL pl l) = tightL pl l := by
  have hp2 := gas_good pl l hp hc
  have hc2 := gas_cut pl l hp hc
  have h8 := (plant_of pl l hp).2.1
  have hg : GoodL pl l := (plant_of pl l hp).2.2.2
  have hg2 : GoodL pl (gasL pl l) := (plant_of pl _ hp2).2.2.2
  unfold tightL
  rw [gasL_len]
  refine List.map_congr_left (fun k hk => ?_)
  have hk' := List.mem_range.1 hk
  have hk2 : k < (gasL pl l).length := by rw [gasL_len]; exact hk'
  have hb := bounds_in pl l hg hc k (by omega) (by omega)
  have hb2 := bounds_in pl _ hg2 hc2 k (by omega) (by omega)
  obtain ⟨t1, a1, a2⟩ := truth_with pl l h8 hg hc k hk' _ (Int.le_refl _) hb.2.1
  obtain ⟨t2, c1, c2⟩ := truth_with pl l h8 hg hc k hk' _ hb.2.1 (Int.le_refl _)
  obtain ⟨t3, d1, d2⟩ := truth_with pl _ h8 hg2 hc2 k hk2 _ (Int.le_refl _) hb2.2.1
  obtain ⟨t4, e1, e2⟩ := truth_with pl _ h8 hg2 hc2 k hk2 _ hb2.2.1 (Int.le_refl _)
  have q1 := tr_bounds pl _ t1 ((gas_truth pl l hp hc t1).2 a1) k hk2
  have q2 := tr_bounds pl _ t2 ((gas_truth pl l hp hc t2).2 c1) k hk2
  have q3 := tr_bounds pl l t3 ((gas_truth pl l hp hc t3).1 d1) k hk'
  have q4 := tr_bounds pl l t4 ((gas_truth pl l hp hc t4).1 e1) k hk'
  unfold tightAt
  congr 1
  · omega
  · omega
end Go.Proofs.Ytalgbihpidpblaa.Print
