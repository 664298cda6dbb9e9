/- Tight and Wrong, as plain functions. -/
import Derived.Test.YtalgbihpidpblaaPA
import Derived.Test.YtalgbihpidpblaaHD
namespace Go.Proofs.Ytalgbihpidpblaa.Print
open Go.RowKit Go.Shelf Go.Proofs.YtalgbihpidpblaaW.PrintWords Go.Proofs.YtalgbihpidpblaaW.PrintLast Go.Proofs.YtalgbihpidpblaaW.PrintMore
set_option linter.unusedVariables false
set_option linter.unusedSimpArgs false

def tightAt (pl : Int) (l : List S47) (i : Nat) : S45 := ⟨(boundS false pl l i).1, (boundS true pl l i).1⟩
def tightL (pl : Int) (l : List S47) : List S45 := (List.range l.length).map (tightAt pl l)
def tightS (pl : Int) (l : List S47) : List S45 × Int := if errS pl l = 0 then (tightL pl l, 0) else ([], errS pl l)
def wrongS (pl : Int) (l : List S47) : List Int × Int :=
  if isPlantB pl l = true then (if ((setsL pl).find? (wrongB l)).isSome = true then (listS (((setsL pl).find? (wrongB l)).getD 0), 0) else ([], 4)) else ([], 1)
def TightPost (r : List S45 × Int) (w : World) (e : Ending) (w' : World) : Prop := ∃ v0_ : Value, e = .returned (.tuple #[v0_, .int .i64 r.2]) ∧ Kd.R k45 45 w' w.heap.size (fun _ => True) v0_ r.1 ∧ Below w.heap.size w w'

theorem tight_go (pl : Int) (l : List S47) (hp : isPlantB pl l = true) (hl : l.length ≤ 16) : ∀ (d x : Nat), x + d = l.length →
    balance_Tight.l0 (d + 1) ((List.range x).map (tightAt pl l)) l.length x pl l = some (tightL pl l, 0)
  | 0, x, h => by
    simp only [balance_Tight.l0]
    rw [if_neg (by omega)]
    obtain rfl : x = l.length := by omega
    rfl
  | d + 1, x, h => by
    rw [balance_Tight.l0]
    rw [if_pos (by omega)]
    have e : balance_tight.f pl l x = some ((boundS false pl l x).1, (boundS true pl l x).1) := by
      unfold balance_tight.f
      rw [if_pos ⟨hp, by omega, by omega⟩]
    rw [e, Option.bind_some, if_pos (by simp only [List.length_map, List.length_range]; omega)]
    have e2 : wrap64 ((x : Int) + 1) = ((x + 1 : Nat) : Int) := by
      unfold wrap64
      omega
    rw [e2]
    have := tight_go pl l hp hl d (x + 1) (by omega)
    rw [List.range_succ, List.map_append] at this
    exact this

theorem tight_eq (pl : Int) (l : List S47) : balance_Tight.f (l.length + 1) pl l = some (tightS pl l) := by
  unfold balance_Tight.f balance_errorOf.f tightS
  rw [Option.bind_some]
  rcases err_cases pl l with ⟨h, _⟩ | ⟨h, _⟩ | ⟨h, hp⟩
  · rw [h]; rfl
  · rw [h]; rfl
  · rw [h, if_pos rfl, if_pos rfl]
    exact tight_go pl l hp (plant_of pl l hp).2.2.1 l.length 0 (by omega)

theorem wrong_eq (pl : Int) (l : List S47) : balance_Wrong.f 9 pl l = some (wrongS pl l) := by
  unfold balance_Wrong.f balance_isPlant.f wrongS balance_wrong.f
  rw [Option.bind_some]
  by_cases h : isPlantB pl l = true
  · rw [if_pos h, if_pos h, if_pos h, Option.bind_some]
    by_cases h2 : ((setsL pl).find? (wrongB l)).isSome = true
    · rw [if_pos h2, if_pos h2, list_eq, Option.bind_some]
    · rw [if_neg h2, if_neg h2]
  · rw [if_neg h, if_neg h]

theorem Tight_any (pl : Int) (A : Option Addr) (c : Nat) (l : List S47) (w : World) (hr : Kd.C k47 w A l.length l) (hc : l.length ≤ c) :
    Calls Try.prog 13 #[.agg #[.int .i64 pl, .slice A l.length c]] w (TightPost (tightS pl l) w) :=
  balance_Tight.calls (l.length + 1) pl A c l _ _ w hr hc (tight_eq pl l)

theorem Wrong_any (pl : Int) (A : Option Addr) (c : Nat) (l : List S47) (w : World) (hr : Kd.C k47 w A l.length l) (hc : l.length ≤ c) :
    Calls Try.prog 19 #[.agg #[.int .i64 pl, .slice A l.length c]] w (WhyPost (wrongS pl l) w) :=
  balance_Wrong.calls 9 pl A c l _ _ w hr hc (wrong_eq pl l)
end Go.Proofs.Ytalgbihpidpblaa.Print
