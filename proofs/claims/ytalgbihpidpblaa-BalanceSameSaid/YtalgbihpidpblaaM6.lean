/- Plain facts on a plant that is valid: its error, its first truth, its tight spans. -/
import Derived.Test.YtalgbihpidpblaaM4
import Derived.Test.YtalgbihpidpblaaHF
namespace Go.Proofs.Ytalgbihpidpblaa.Print
open Go.RowKit Go.Shelf Go.Proofs.YtalgbihpidpblaaW.PrintWords Go.Proofs.YtalgbihpidpblaaW.PrintLast Go.Proofs.YtalgbihpidpblaaW.PrintMore
set_option linter.unusedVariables false
set_option linter.unusedSimpArgs false

theorem w64b {n : Int} (h0 : -9223372036854775808 ≤ n) (h1 : n ≤ 9223372036854775807) : wrap64 n = n := by
  unfold wrap64
  omega
theorem err_two (pl : Int) (l : List S47) (hp : isPlantB pl l = true) : (errS pl l = 0 ∧ Cut l) ∨ (errS pl l = 6 ∧ ¬ Cut l) := by
  have h8 := (plant_of pl l hp).2.1
  have hg : GoodL pl l := (plant_of pl l hp).2.2.2
  unfold errS
  rw [if_pos hp]
  by_cases h : ((setsL pl).find? (wrongB l)).isSome = true
  · rw [if_pos h]
    refine .inr ⟨rfl, fun hc => ?_⟩
    obtain ⟨s, hs⟩ := Option.isSome_iff_exists.1 h
    have h1 := List.find?_some hs
    rw [none_of_cut l hc s] at h1
    cases h1
  · rw [if_neg h]
    exact .inl ⟨rfl, cut_of_none pl l h8 hg (find_none (by simpa using h))⟩
theorem err_cut (pl : Int) (l : List S47) (hp : isPlantB pl l = true) (hc : Cut l) : errS pl l = 0 := by
  rcases err_two pl l hp with ⟨h, _⟩ | ⟨_, h⟩
  · exact h
  · exact absurd hc h
theorem good_plant (pl : Int) (l : List S47) (h2 : 2 ≤ pl) (h8 : pl ≤ 8) (h16 : l.length ≤ 16) (hg : GoodL pl l) : isPlantB pl l = true := by
  have ha : anyBad pl l = false := by
    rw [any_bad, List.any_eq_false]
    intro x hx
    rw [(badX_iff pl x).2 (hg x hx)]
    decide
  simp only [isPlantB, Bool.and_eq_true, withinB, decide_eq_true_eq, Bool.not_eq_true']
  exact ⟨⟨⟨h2, h8⟩, h16⟩, ha⟩
theorem truth_plant (pl : Int) (l : List S47) (hp : isPlantB pl l = true) (hc : Cut l) : truthOk pl l = true := by
  have h8 := (plant_of pl l hp).2.1
  have hg : GoodL pl l := (plant_of pl l hp).2.2.2
  unfold truthOk
  rw [List.all_eq_true]
  intro i hi
  have hi := List.mem_range.1 hi
  have := (fixes_good pl l h8 hg hc i (by omega)).1
  exact good_plant pl _ (plant_of pl l hp).1 h8 (by rw [fixes_length]; exact (plant_of pl l hp).2.2.1) this
/-- The first truth, as Truth tells it. -/
theorem truth_cut (pl : Int) (l : List S47) (hp : isPlantB pl l = true) (hc : Cut l) : balance_Truth.f pl l = some (truthL pl l l.length, 0) := by
  unfold balance_Truth.f
  rw [if_pos (err_cut pl l hp hc), if_pos (truth_plant pl l hp hc)]
theorem truth_none (pl : Int) (l : List S47) (hp : isPlantB pl l = true) (hc : ¬ Cut l) : balance_Truth.f pl l = some ([], 6) := by
  have he : errS pl l = 6 := by
    rcases err_two pl l hp with ⟨_, h⟩ | ⟨h, _⟩
    · exact absurd h hc
    · exact h
  unfold balance_Truth.f
  rw [he, if_neg (by decide)]
theorem tight_cut (pl : Int) (l : List S47) (hp : isPlantB pl l = true) (hc : Cut l) : tightS pl l = (tightL pl l, 0) := by
  unfold tightS
  rw [if_pos (err_cut pl l hp hc)]
theorem wrong_cut (pl : Int) (l : List S47) (hp : isPlantB pl l = true) (hc : Cut l) : wrongS pl l = ([], 4) := by
  unfold wrongS
  have hn : ((setsL pl).find? (wrongB l)).isSome = false := by
    cases hf : (setsL pl).find? (wrongB l) with
    | none => rfl
    | some s =>
      have := List.find?_some hf
      rw [none_of_cut l hc s] at this
      cases this
  rw [if_pos hp, hn]
  rfl
theorem tightL_len (pl : Int) (l : List S47) : (tightL pl l).length = l.length := by simp [tightL]
theorem tightL_rd (pl : Int) (l : List S47) (k : Nat) (hk : k < l.length) : rd_T45 (tightL pl l) k = ⟨(boundS false pl l k).1, (boundS true pl l k).1⟩ := by
  simp [rd_T45, tightL, tightAt, List.getD_eq_getElem?_getD, hk]
end Go.Proofs.Ytalgbihpidpblaa.Print
