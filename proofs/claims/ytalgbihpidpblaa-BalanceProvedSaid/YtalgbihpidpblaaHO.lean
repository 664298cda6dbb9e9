/- BalanceProved: all ways joined. -/
import Derived.Test.YtalgbihpidpblaaHN
import Derived.Test.YtalgbihpidpblaaHK2
namespace Go.Proofs.Ytalgbihpidpblaa.Print
open Go.RowKit Go.Shelf Go.Proofs.YtalgbihpidpblaaW.PrintWords Go.Proofs.YtalgbihpidpblaaW.PrintLast Go.Proofs.YtalgbihpidpblaaW.PrintMore
set_option linter.unusedVariables false
set_option linter.unusedSimpArgs false

theorem within_no (flow : Int) (l : List S47) (h : withinB flow 0 (l.length - 1) = false) : flow < 0 ∨ (l.length : Int) ≤ flow := by
  unfold withinB at h
  simp only [Bool.and_eq_false_iff, decide_eq_false_iff_not] at h
  omega
theorem within_yes (flow : Int) (l : List S47) (h : withinB flow 0 (l.length - 1) = true) : 0 ≤ flow ∧ flow < (l.length : Int) := by
  unfold withinB at h
  simp only [Bool.and_eq_true, decide_eq_true_eq] at h
  omega

theorem err_none (pl : Int) (l : List S47) (h : errS pl l = 0) : isPlantB pl l = true ∧ ((setsL pl).find? (wrongB l)).isSome = false := by
  unfold errS at h
  split at h
  · rename_i hp
    split at h
    · cases h
    · rename_i hn
      exact ⟨hp, by simpa using hn⟩
  · cases h
theorem err_some (pl : Int) (l : List S47) (h : errS pl l = 6) : isPlantB pl l = true ∧ ∃ s, s ∈ setsL pl ∧ wrongB l s = true ∧ (setsL pl).find? (wrongB l) = some s := by
  unfold errS at h
  split at h
  · rename_i hp
    split at h
    · rename_i hs
      obtain ⟨s, hf⟩ := Option.isSome_iff_exists.1 hs
      exact ⟨hp, s, List.mem_of_find?_eq_some hf, List.find?_some hf, hf⟩
    · cases h
  · cases h

theorem proved_all (pl : Int) (A : Option Addr) (c : Nat) (l : List S47) (flow : Int) (most : Bool) (w : World) (hr : Kd.C k47 w A l.length l) (hc : l.length ≤ c) (_hw : (Lit.int .i64 flow).wf = true) :
    Calls Try.prog 7 #[.agg #[.int .i64 pl, .slice A l.length c], .int .i64 flow, .bool most] w fun e w' => e = .returned (.bool true) ∧ Below w.heap.size w w' := by
  by_cases hl : (l.length : Int) > 20
  · exact proved_large pl A c l flow most w hr hc hl
  rcases err_cases pl l with ⟨he, hp⟩ | ⟨he, hp⟩ | ⟨he, hp⟩
  · refine proved_arg pl A c l flow most w hr hc hl ?_ ?_ ?_
    · unfold wrongS
      rw [if_neg (by rw [hp]; decide)]
    · unfold tightS
      rw [he]
      rfl
    · unfold whyS
      rw [he]
      rfl
  · obtain ⟨_, s, hs, hw, hf⟩ := err_some pl l he
    obtain ⟨_, h8, _, hg⟩ := plant_of pl l hp
    have h19 : wrongS pl l = (listS s, 0) := by
      unfold wrongS
      rw [if_pos hp, hf]
      rfl
    have h13 : tightS pl l = ([], 6) := by
      unfold tightS
      rw [he]
      rfl
    have hq : totalW (listS s) (-1) false false l > totalW (listS s) (-1) true true l := by
      rw [totalW_list pl s (-1) false false l h8 hg, totalW_list pl s (-1) true true l h8 hg]
      unfold wrongB at hw
      simpa using hw
    cases hwi : withinB flow 0 (l.length - 1) with
    | false =>
      have h17 : whyS pl l flow most = ([], 2) := by
        unfold whyS
        rw [he, hwi]
        rfl
      rcases within_no flow l hwi with h | h
      · exact proved_none_low pl A c l flow most w hr hc hl hp s hs h19 h13 h17 hq h
      · exact proved_none_high pl A c l flow most w hr hc hl hp s hs h19 h13 h17 hq h
    | true =>
      have h17 : whyS pl l flow most = ([], 6) := by
        unfold whyS
        rw [he, hwi]
        rfl
      exact proved_none pl A c l flow most w hr hc hl hp s hs h19 h13 h17 hq
  · obtain ⟨_, hn⟩ := err_none pl l he
    obtain ⟨_, h8, _, hg⟩ := plant_of pl l hp
    have h19 : wrongS pl l = ([], 4) := by
      unfold wrongS
      rw [if_pos hp, if_neg (by rw [hn]; decide)]
    have h13 : tightS pl l = (tightL pl l, 0) := by
      unfold tightS
      rw [he]
      rfl
    cases hwi : withinB flow 0 (l.length - 1) with
    | false =>
      have h17 : whyS pl l flow most = ([], 2) := by
        unfold whyS
        rw [he, hwi]
        rfl
      exact proved_range pl A c l flow most w hr hc hl hp h19 h13 h17 (within_no flow l hwi)
    | true =>
      obtain ⟨hf0, hf1⟩ := within_yes flow l hwi
      obtain ⟨b1, b2, _⟩ := bound_spec most pl l flow
      cases hb : (boundS most pl l flow).2.2 with
      | false =>
        have h17 : whyS pl l flow most = ([], 4) := by
          unfold whyS
          rw [he, hwi, hb]
          rfl
        have b := b1 hb
        cases most with
        | false => exact proved_own_least pl A c l flow w hr hc hl hp h19 h13 h17 hf0 hf1 (by rw [b]; rfl)
        | true => exact proved_own_most pl A c l flow w hr hc hl hp h19 h13 h17 hf0 hf1 (by rw [b]; rfl)
      | true =>
        have h17 : whyS pl l flow most = (listS (boundS most pl l flow).2.1, 0) := by
          unfold whyS
          rw [he, hwi, hb]
          rfl
        obtain ⟨hs, h1, h0, hsay, hlt⟩ := b2 hb
        cases most with
        | false =>
          refine proved_set_least pl A c l flow w hr hc _ hl hp h19 h13 h17 hf0 hf1 hs h1 h0 ?_ ?_
          · rw [totalW_list pl _ flow true false l h8 hg, totalW_list pl _ flow false true l h8 hg]
            exact hsay
          · intro e
            rw [e] at hlt
            simp [first] at hlt
        | true =>
          refine proved_set_most pl A c l flow w hr hc _ hl hp h19 h13 h17 hf0 hf1 hs h1 h0 ?_ ?_
          · rw [totalW_list pl _ flow true true l h8 hg, totalW_list pl _ flow false false l h8 hg]
            exact hsay
          · intro e
            rw [e] at hlt
            simp [first] at hlt
end Go.Proofs.Ytalgbihpidpblaa.Print
