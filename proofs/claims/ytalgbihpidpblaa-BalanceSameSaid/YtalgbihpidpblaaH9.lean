/- What is wrong with a plant (errorOf), and the places that prove an end (Why). -/
import Derived.Test.YtalgbihpidpblaaH8
import Derived.Test.YtalgbihpidpblaaPrint3
import Derived.WalkMore
namespace Go.Proofs.Ytalgbihpidpblaa.Print
open Go.RowKit Go.Shelf Go.Proofs.YtalgbihpidpblaaW.PrintWords Go.Proofs.YtalgbihpidpblaaW.PrintLast Go.Proofs.YtalgbihpidpblaaW.PrintMore
set_option linter.unusedVariables false
set_option linter.unusedSimpArgs false

def errS (pl : Int) (l : List S47) : Int := if isPlantB pl l = true then (if ((setsL pl).find? (wrongB l)).isSome = true then 6 else 0) else 1

theorem plant_any (pl : Int) (A : Option Addr) (c : Nat) (l : List S47) (w : World) (hr : Kd.C k47 w A l.length l) (hc : l.length ≤ c) :
    Calls Try.prog 40 #[.agg #[.int .i64 pl, .slice A l.length c]] w fun e w' => e = .returned (.bool (isPlantB pl l)) ∧ Below w.heap.size w w' :=
  balance_isPlant.calls pl A c l _ w hr hc rfl

set_option maxRecDepth 100000 in
set_option maxHeartbeats 2000000 in
theorem error_any (pl : Int) (A : Option Addr) (c : Nat) (l : List S47) (w : World) (hr : Kd.C k47 w A l.length l) (hc : l.length ≤ c) :
    Calls Try.prog 28 #[.agg #[.int .i64 pl, .slice A l.length c]] w fun e w' => e = .returned (.int .i64 (errS pl l)) ∧ Below w.heap.size w w' := by
  have HR := Aside0.mk hr
  clear hr
  unfold errS
  have ha : ∀ W, Below w.heap.size w W → Kd.C k47 W A l.length l := fun W hb => Kd.C_below HR.out hb
  have HA := Aside0.mk ha
  clear ha
  by_cases hp : isPlantB pl l = true
  · rw [if_pos hp]
    have HP := Aside0.mk hp
    by_cases hw : ((setsL pl).find? (wrongB l)).isSome = true
    · rw [if_pos hw]
      go_enter Try.func28, Try.ntmps28
      go_wp2_with (first
        | (go_at_call 40; refine (plant_any _ _ _ _ _ (HA.out _ (by repeat (first | exact Below.refl _ _ | apply below_alloc))) hc).mono ?_; rintro e W1 ⟨rfl, hb⟩; have s0 := (hb.cell (p := ⟨w.heap.size, 0, none⟩) (by simp)).trans (cell_two (blk_new w (.cells #[.int .i64 pl, .slice A l.length c] 24)) 0 rfl); have s1 := (hb.cell (p := ⟨w.heap.size, 1, none⟩) (by simp)).trans (cell_two (blk_new w (.cells #[.int .i64 pl, .slice A l.length c] 24)) 1 rfl); have HB1 := Aside0.mk (((Below.refl w.heap.size w).alloc (Nat.le_refl _) (.cells #[.int .i64 pl, .slice A l.length c] 24)).trans (hb.mono (by simp))); clear hb)
        | (go_at_call 41; refine (wrong_any _ _ _ _ _ (HA.out _ HB1.out) HP.out).mono ?_; rintro e W2 ⟨rfl, hb⟩; have HB2 := Aside0.mk (HB1.out.trans (hb.mono HB1.out.size)); clear hb))
      go_ret
      exact ⟨rfl, HB2.out⟩
    · have hw' : ((setsL pl).find? (wrongB l)).isSome = false := by simpa using hw
      rw [if_neg hw]
      clear hw
      go_enter Try.func28, Try.ntmps28
      go_wp2_with (first
        | (go_at_call 40; refine (plant_any _ _ _ _ _ (HA.out _ (by repeat (first | exact Below.refl _ _ | apply below_alloc))) hc).mono ?_; rintro e W1 ⟨rfl, hb⟩; have s0 := (hb.cell (p := ⟨w.heap.size, 0, none⟩) (by simp)).trans (cell_two (blk_new w (.cells #[.int .i64 pl, .slice A l.length c] 24)) 0 rfl); have s1 := (hb.cell (p := ⟨w.heap.size, 1, none⟩) (by simp)).trans (cell_two (blk_new w (.cells #[.int .i64 pl, .slice A l.length c] 24)) 1 rfl); have HB1 := Aside0.mk (((Below.refl w.heap.size w).alloc (Nat.le_refl _) (.cells #[.int .i64 pl, .slice A l.length c] 24)).trans (hb.mono (by simp))); clear hb)
        | (go_at_call 41; refine (wrong_any _ _ _ _ _ (HA.out _ HB1.out) HP.out).mono ?_; rintro e W2 ⟨rfl, hb⟩; have HB2 := Aside0.mk (HB1.out.trans (hb.mono HB1.out.size)); clear hb))
      go_ret
      exact ⟨rfl, HB2.out⟩
  · have hp' : isPlantB pl l = false := by simpa using hp
    rw [if_neg hp]
    clear hp
    go_enter Try.func28, Try.ntmps28
    go_wp2_with (go_at_call 40; refine (plant_any _ _ _ _ _ (HA.out _ (by repeat (first | exact Below.refl _ _ | apply below_alloc))) hc).mono ?_; rintro e W1 ⟨rfl, hb⟩; have HB1 := Aside0.mk (((Below.refl w.heap.size w).alloc (Nat.le_refl _) (.cells #[.int .i64 pl, .slice A l.length c] 24)).trans (hb.mono (by simp))); clear hb)
    go_ret
    exact ⟨rfl, HB1.out⟩

def balance_errorOf.f (a0_0 : Int) (l0_1 : List (S47)) : Option (Int) := some (errS a0_0 l0_1)
theorem balance_errorOf.calls (a0_0 : Int) (A0_1 : Option Addr) (c0_1 : Nat) (l0_1 : List (S47)) (r : Int) (w : World) (hr0_1 : Kd.C k47 w A0_1 l0_1.length l0_1) (hc0_1 : l0_1.length ≤ c0_1) (h : balance_errorOf.f a0_0 l0_1 = some r) :
    Calls Try.prog 28 #[.agg #[.int .i64 a0_0, .slice A0_1 l0_1.length c0_1]] w fun e w' => e = .returned (.int .i64 r) ∧ Below w.heap.size w w' := by
  obtain rfl : errS a0_0 l0_1 = r := by simpa [balance_errorOf.f] using h
  exact error_any _ _ _ _ _ hr0_1 hc0_1
end Go.Proofs.Ytalgbihpidpblaa.Print
