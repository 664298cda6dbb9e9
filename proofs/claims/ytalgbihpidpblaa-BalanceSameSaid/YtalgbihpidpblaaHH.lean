/- The document's Plant is the program's. -/
import Derived.Test.YtalgbihpidpblaaHF
import Derived.Test.YtalgbihpidpblaaPrint2
import Derived.IntWalk
namespace Go.Proofs.Ytalgbihpidpblaa.Print
open Go.RowKit Go.Shelf Go.Proofs.YtalgbihpidpblaaW.PrintWords Go.Proofs.YtalgbihpidpblaaW.PrintLast Go.Proofs.YtalgbihpidpblaaW.PrintMore
set_option linter.unusedVariables false
set_option linter.unusedSimpArgs false

def badX (pl : Int) (x : S47) : Bool := badB pl x.f0 x.f1 x.f2.f0 x.f2.f1
theorem badX_iff (pl : Int) (x : S47) : badX pl x = false ↔ goodF pl x := by
  unfold badX badB goodF withinB
  simp only [Bool.or_eq_false_iff, Bool.not_eq_false', Bool.and_eq_true, decide_eq_true_eq, bne_iff_ne]
  omega

theorem plant_j2 (k : Nat) (x : Int) (b : Bool) (pl : Int) (l : List S47) (h0 : 0 ≤ x) (hx : x < 100) : gasworksref04_Plant.j2 (k + 1) x b pl l = if b = true then some false else gasworksref04_Plant.l0 k (x + 1) pl l := by
  rw [gasworksref04_Plant.j2, IntWalk.wrap64_in _ (by omega)]

theorem plant_step (k : Nat) (x : Int) (pl : Int) (l : List S47) (h0 : 0 ≤ x) (hx : x < l.length) (hl : l.length ≤ 16) (h2 : 2 ≤ pl) (h8 : pl ≤ 8) :
    gasworksref04_Plant.l0 (k + 2) x pl l = if badX pl (rd_T47 l x) = true then some false else gasworksref04_Plant.l0 k (x + 1) pl l := by
  have hj := fun b => plant_j2 k x b pl l h0 (by omega)
  rw [gasworksref04_Plant.l0, if_pos hx, if_pos h0]
  simp only [hj, gasworksref04_in.f]
  rw [IntWalk.wrap64_in _ (by omega)]
  generalize rd_T47 l x = y
  by_cases hg : goodF pl y
  · have hb : badX pl y = false := (badX_iff pl y).2 hg
    rw [hb]
    unfold goodF at hg
    have e1 : decide (y.f0 ≤ pl - 1) = true := by simp; omega
    have e2 : decide (y.f1 ≤ pl - 1) = true := by simp; omega
    have e3 : decide (y.f2.f1 > 1073741824) = false := by simp; omega
    rw [if_pos hg.1, Option.bind_some, if_pos e1, if_pos hg.2.2.1, Option.bind_some, if_pos e2, if_neg hg.2.2.2.2.1, if_neg (by omega), if_neg (by omega), e3]
  · have hb : badX pl y = true := by
      cases h : badX pl y with
      | true => rfl
      | false => exact absurd ((badX_iff pl y).1 h) hg
    rw [hb]
    simp only [if_true]
    unfold goodF at hg
    by_cases a1 : 0 ≤ y.f0
    · rw [if_pos a1, Option.bind_some]
      by_cases a2 : y.f0 ≤ pl - 1
      · rw [if_pos (decide_eq_true a2)]
        by_cases a3 : 0 ≤ y.f1
        · rw [if_pos a3, Option.bind_some]
          by_cases a4 : y.f1 ≤ pl - 1
          · rw [if_pos (decide_eq_true a4)]
            split
            · rfl
            · split
              · rfl
              · split
                · rfl
                · rw [if_pos (by simp; omega)]
          · rw [if_neg (by simpa using a4)]
        · rw [if_neg a3]
          rfl
      · rw [if_neg (by simpa using a2)]
    · rw [if_neg a1]
      rfl

theorem plant_go (pl : Int) (l : List S47) (hl : l.length ≤ 16) (h2 : 2 ≤ pl) (h8 : pl ≤ 8) : ∀ (d x : Nat), x + d = l.length →
    gasworksref04_Plant.l0 (2 * d + 1) x pl l = some (!(l.drop x).any (badX pl))
  | 0, x, h => by
    rw [gasworksref04_Plant.l0, if_neg (by omega), List.drop_eq_nil_of_le (by omega)]
    rfl
  | d + 1, x, h => by
    have hx : x < l.length := by omega
    rw [show 2 * (d + 1) + 1 = (2 * d + 1) + 2 from by omega, plant_step _ _ _ _ (by omega) (by omega) hl h2 h8, rd_T45_eq _ _ hx, List.drop_eq_getElem_cons hx, List.any_cons]
    cases hb : badX pl l[x] with
    | true => rfl
    | false =>
      rw [if_neg (by decide)]
      have := plant_go pl l hl h2 h8 d (x + 1) (by omega)
      rw [show ((x : Int) + 1) = ((x + 1 : Nat) : Int) from by omega, this]
      rfl

theorem any_bad (pl : Int) (l : List S47) : anyBad pl l = l.any (badX pl) := rfl

theorem plant_eq (pl : Int) (l : List S47) : gasworksref04_Plant.f (2 * l.length + 2) pl l = some (isPlantB pl l) := by
  unfold gasworksref04_Plant.f gasworksref04_in.f isPlantB withinB
  by_cases h2 : 2 ≤ pl
  · rw [if_pos h2, Option.bind_some, decide_eq_true h2]
    by_cases h8 : pl ≤ 8
    · rw [if_pos (decide_eq_true h8), decide_eq_true h8]
      by_cases hl : l.length ≤ 16
      · rw [decide_eq_false (by omega), decide_eq_true hl]
        have := plant_go pl l hl h2 h8 l.length 0 (by omega)
        rw [List.drop_zero] at this
        rw [gasworksref04_Plant.j0, if_neg (by decide), any_bad]
        exact this
      · rw [decide_eq_true (by omega), decide_eq_false hl]
        rfl
    · rw [if_neg (by simpa using h8), decide_eq_false h8]
      rfl
  · rw [if_neg h2, decide_eq_false h2]
    rfl

theorem Plant_any (pl : Int) (A : Option Addr) (c : Nat) (l : List S47) (w : World) (hr : Kd.C k47 w A l.length l) (hc : l.length ≤ c) :
    Calls Try.prog 23 #[.agg #[.int .i64 pl, .slice A l.length c]] w fun e w' => e = .returned (.bool (isPlantB pl l)) ∧ Below w.heap.size w w' :=
  gasworksref04_Plant.calls _ pl A c l _ w hr hc (plant_eq pl l)
end Go.Proofs.Ytalgbihpidpblaa.Print
