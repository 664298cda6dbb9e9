/- The walks of the law, as a plain function with its contract. -/
import Derived.Test.YtalgbihpidpblaaG2
namespace Go.Proofs.Ytalgbihpidpblaa.Print
open Go.RowKit Go.Shelf Go.Proofs.YtalgbihpidpblaaW.PrintWords Go.Proofs.YtalgbihpidpblaaW.PrintLast Go.Proofs.YtalgbihpidpblaaW.PrintMore
set_option linter.unusedVariables false
set_option linter.unusedSimpArgs false

def upB (m : Int) (l : List Int) : Bool := l.all fun x => decide (0 ≤ x) && decide (x ≤ m)
theorem up_rd {m : Int} {l : List Int} (h : upB m l = true) : ∀ i : Int, 0 ≤ i → i < l.length → 0 ≤ rd l i ∧ rd l i ≤ m := fun i h0 h1 => by
  unfold upB at h
  rw [List.all_eq_true] at h
  have := h _ (rd_mem l i h0 h1)
  rwa [Bool.and_eq_true, decide_eq_true_eq, decide_eq_true_eq] at this
def WalkArgs (pl : Int) (st gs wd : List Int) : Prop := (2 ≤ pl ∧ pl ≤ 8) ∧ (0 < st.length ∧ 0 < gs.length ∧ 0 < wd.length) ∧ (st.length ≤ 9223372036854775807 ∧ gs.length ≤ 9223372036854775807 ∧ wd.length ≤ 9223372036854775807) ∧ upB 255 st = true ∧ upB 65535 gs = true ∧ upB 255 wd = true
instance (pl : Int) (st gs wd : List Int) : Decidable (WalkArgs pl st gs wd) := by unfold WalkArgs; infer_instance

def gasworkslaw04_walks.f (a0 : Int) (l1 : List Int) (l2 : List Int) (l3 : List Int) : Option (Int × (List (S47)) × List Int) := if WalkArgs a0 l1 l2 l3 then some (a0, (walksS a0 l1 l2 l3).1, (walksS a0 l1 l2 l3).2) else none
theorem gasworkslaw04_walks.calls (a0 : Int) (A1 : Option Addr) (c1 : Nat) (l1 : List Int) (A2 : Option Addr) (c2 : Nat) (l2 : List Int) (A3 : Option Addr) (c3 : Nat) (l3 : List Int) (r1 : Int) (r2 : List (S47)) (r3 : List Int) (w : World) (hr1 : Kd.C (Kd.int .u8) w A1 l1.length l1) (hc1 : l1.length ≤ c1) (hr2 : Kd.C (Kd.int .u16) w A2 l2.length l2) (hc2 : l2.length ≤ c2) (hr3 : Kd.C (Kd.int .u8) w A3 l3.length l3) (hc3 : l3.length ≤ c3) (h : gasworkslaw04_walks.f a0 l1 l2 l3 = some (r1, r2, r3)) :
    Calls Try.prog 21 #[.int .i64 a0, .slice A1 l1.length c1, .slice A2 l2.length c2, .slice A3 l3.length c3] w fun e w' => ∃ v1_ v2_ : Value, e = .returned (.tuple #[.agg #[.int .i64 r1, v1_], v2_]) ∧ Kd.R k47 47 w' w.heap.size (fun _ => True) v1_ r2 ∧ Kd.R (Kd.int .i64) 3 w' w.heap.size (fun _ => True) v2_ r3 ∧ Below w.heap.size w w' := by
  unfold gasworkslaw04_walks.f at h
  split at h
  · rename_i hA
    obtain ⟨⟨h2, h8⟩, ⟨p1, p2, p3⟩, ⟨m1, m2, m3⟩, b1, b2, b3⟩ := hA
    simp only [Option.some.injEq, Prod.mk.injEq] at h
    obtain ⟨rfl, rfl, rfl⟩ := h
    exact walks_any a0 A1 A2 A3 c1 c2 c3 l1 l2 l3 w h2 h8 hr1 hr2 hr3 p1 p2 p3 m1 m2 m3 (up_rd b1) (up_rd b2) (up_rd b3)
  · cases h
end Go.Proofs.Ytalgbihpidpblaa.Print
