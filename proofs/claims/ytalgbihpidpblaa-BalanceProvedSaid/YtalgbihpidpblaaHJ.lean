/- BalanceProved: the early ways. -/
import Derived.Test.YtalgbihpidpblaaHI
namespace Go.Proofs.Ytalgbihpidpblaa.Print
open Go.RowKit Go.Shelf Go.Proofs.YtalgbihpidpblaaW.PrintWords Go.Proofs.YtalgbihpidpblaaW.PrintLast Go.Proofs.YtalgbihpidpblaaW.PrintMore
set_option linter.unusedVariables false
set_option linter.unusedSimpArgs false

theorem plant_call {pl : Int} {A : Option Addr} {c : Nat} {l : List S47} {r : Bool} {w : World} (h : isPlantB pl l = r) (hr : Kd.C k47 w A l.length l) (hc : l.length ≤ c) :
    Calls Try.prog 23 #[.agg #[.int .i64 pl, .slice A l.length c]] w fun e w' => e = .returned (.bool r) ∧ Below w.heap.size w w' := by subst h; exact Plant_any _ _ _ _ _ hr hc

set_option maxHeartbeats 4000000 in
set_option maxRecDepth 100000 in
theorem proved_large (pl : Int) (A : Option Addr) (c : Nat) (l : List S47) (flow : Int) (most : Bool) (w : World) (hr : Kd.C k47 w A l.length l) (hc : l.length ≤ c) (hl : (l.length : Int) > 20) :
    Calls Try.prog 7 #[.agg #[.int .i64 pl, .slice A l.length c], .int .i64 flow, .bool most] w fun e w' => e = .returned (.bool true) ∧ Below w.heap.size w w' := by
  have HR := Aside0.mk hr
  clear hr
  have hl2 : decide ((l.length : Int) > 20) = true := decide_eq_true hl
  go_enter Try.func7, Try.ntmps7
  go_wp2_with ((go_at_call 10; refine (awake_any _).mono ?_; rintro e Wz ⟨rfl, hb⟩; have HBz := Aside0.mk (bl_next (below_alloc (Below.refl _ _) _) hb); clear hb))
  go_ret
  exact ⟨rfl, HBz.out⟩

set_option maxHeartbeats 4000000 in
set_option maxRecDepth 100000 in
theorem proved_arg (pl : Int) (A : Option Addr) (c : Nat) (l : List S47) (flow : Int) (most : Bool) (w : World) (hr : Kd.C k47 w A l.length l) (hc : l.length ≤ c) (hl : ¬ (l.length : Int) > 20) (h19 : wrongS pl l = ([], 1)) (h13 : tightS pl l = ([], 1)) (h17 : whyS pl l flow most = ([], 1)) :
    Calls Try.prog 7 #[.agg #[.int .i64 pl, .slice A l.length c], .int .i64 flow, .bool most] w fun e w' => e = .returned (.bool true) ∧ Below w.heap.size w w' := by
  have HR := Aside0.mk hr
  clear hr
  have HW19 := Aside0.mk h19
  clear h19
  have HW13 := Aside0.mk h13
  clear h13
  have HW17 := Aside0.mk h17
  clear h17
  have hl2 : decide ((l.length : Int) > 20) = false := decide_eq_false hl
  go_enter Try.func7, Try.ntmps7
  go_wp2_with (first
    | (go_at_call 19; refine (wrong_call (r := ([], 1)) HW19.out (Kd.C_below HR.out (by repeat (first | exact Below.refl _ _ | apply below_alloc))) hc).mono ?_; rintro e W1 ⟨v, rfl, hR, hb⟩; obtain ⟨A1, c1, rfl⟩ := Kd.R_slice hR; have HT1 := Aside0.mk hR; have BP1 := Aside0.mk (blk_below (blk_new w (.cells #[.int .i64 pl, .slice A l.length c] 24)) hb); have HB1 := Aside0.mk (bl_next (below_alloc (Below.refl _ _) _) hb); have s0 := cell_two BP1.out 0 rfl; have s1 := cell_two BP1.out 1 rfl; clear hR hb)
    | (go_at_call 13; refine (tight_call (r := ([], 1)) HW13.out (Kd.C_below HR.out HB1.out) hc).mono ?_; rintro e W2 ⟨v, rfl, hR, hb⟩; obtain ⟨A2, c2, rfl⟩ := Kd.R_slice hR; have HU2 := Aside0.mk hR; have HT2 := Aside0.mk (Kd.R_below HT1.out hb); have BP2 := Aside0.mk (blk_below BP1.out hb); have HB2 := Aside0.mk (bl_next HB1.out hb); clear s0 s1 HT1 BP1 HB1; have s0 := cell_two BP2.out 0 rfl; have s1 := cell_two BP2.out 1 rfl; clear hR hb)
    | (go_at_call 17; refine (why_call (r := ([], 1)) HW17.out (Kd.C_below HR.out HB2.out) hc).mono ?_; rintro e W3 ⟨v, rfl, hR, hb⟩; obtain ⟨A3, c3, rfl⟩ := Kd.R_slice hR; have HV3 := Aside0.mk hR; have HT3 := Aside0.mk (Kd.R_below HT2.out hb); have HU3 := Aside0.mk (Kd.R_below HU2.out hb); have BP3 := Aside0.mk (blk_below BP2.out hb); have HB3 := Aside0.mk (bl_next HB2.out hb); clear s0 s1 HT2 HU2 BP2 HB2; have s0 := cell_two BP3.out 0 rfl; have s1 := cell_two BP3.out 1 rfl; clear hR hb)
    | (go_at_call 10; refine (awake_any _).mono ?_; rintro e Wz ⟨rfl, hb⟩; have HBz := Aside0.mk (bl_next HB3.out hb); clear hb))
  go_ret
  exact ⟨rfl, HBz.out⟩

set_option maxHeartbeats 4000000 in
set_option maxRecDepth 100000 in
theorem proved_range (pl : Int) (A : Option Addr) (c : Nat) (l : List S47) (flow : Int) (most : Bool) (w : World) (hr : Kd.C k47 w A l.length l) (hc : l.length ≤ c) (hl : ¬ (l.length : Int) > 20) (hp : isPlantB pl l = true) (h19 : wrongS pl l = ([], 4)) (h13 : tightS pl l = (tightL pl l, 0)) (h17 : whyS pl l flow most = ([], 2)) (hf : flow < 0 ∨ l.length ≤ flow) :
    Calls Try.prog 7 #[.agg #[.int .i64 pl, .slice A l.length c], .int .i64 flow, .bool most] w fun e w' => e = .returned (.bool true) ∧ Below w.heap.size w w' := by
  have HR := Aside0.mk hr
  clear hr
  have HW19 := Aside0.mk h19
  clear h19
  have HW13 := Aside0.mk h13
  clear h13
  have HW17 := Aside0.mk h17
  clear h17
  have HP := Aside0.mk hp
  clear hp
  have hl2 : decide ((l.length : Int) > 20) = false := decide_eq_false hl
  have hn : (tightL pl l).length = l.length := by simp [tightL]
  rcases hf with hf | hf
  · have hf2 : decide (flow < 0) = true := decide_eq_true hf
    go_enter Try.func7, Try.ntmps7
    go_wp2_with (first
      | (go_at_call 19; refine (wrong_call (r := ([], 4)) HW19.out (Kd.C_below HR.out (by repeat (first | exact Below.refl _ _ | apply below_alloc))) hc).mono ?_; rintro e W1 ⟨v, rfl, hR, hb⟩; obtain ⟨A1, c1, rfl⟩ := Kd.R_slice hR; have HT1 := Aside0.mk hR; have BP1 := Aside0.mk (blk_below (blk_new w (.cells #[.int .i64 pl, .slice A l.length c] 24)) hb); have HB1 := Aside0.mk (bl_next (below_alloc (Below.refl _ _) _) hb); have s0 := cell_two BP1.out 0 rfl; have s1 := cell_two BP1.out 1 rfl; clear hR hb)
      | (go_at_call 13; refine (tight_call (r := (tightL pl l, 0)) HW13.out (Kd.C_below HR.out HB1.out) hc).mono ?_; rintro e W2 ⟨v, rfl, hR, hb⟩; obtain ⟨A2, c2, rfl⟩ := Kd.R_slice hR; have HU2 := Aside0.mk hR; have HT2 := Aside0.mk (Kd.R_below HT1.out hb); have BP2 := Aside0.mk (blk_below BP1.out hb); have HB2 := Aside0.mk (bl_next HB1.out hb); clear s0 s1 HT1 BP1 HB1; have s0 := cell_two BP2.out 0 rfl; have s1 := cell_two BP2.out 1 rfl; clear hR hb)
      | (go_at_call 17; refine (why_call (r := ([], 2)) HW17.out (Kd.C_below HR.out HB2.out) hc).mono ?_; rintro e W3 ⟨v, rfl, hR, hb⟩; obtain ⟨A3, c3, rfl⟩ := Kd.R_slice hR; have HV3 := Aside0.mk hR; have HT3 := Aside0.mk (Kd.R_below HT2.out hb); have HU3 := Aside0.mk (Kd.R_below HU2.out hb); have BP3 := Aside0.mk (blk_below BP2.out hb); have HB3 := Aside0.mk (bl_next HB2.out hb); clear s0 s1 HT2 HU2 BP2 HB2; have s0 := cell_two BP3.out 0 rfl; have s1 := cell_two BP3.out 1 rfl; clear hR hb)
      | (go_at_call 23; refine (plant_call HP.out (Kd.C_below HR.out HB3.out) hc).mono ?_; rintro e W4 ⟨rfl, hb⟩; have HV4 := Aside0.mk (Kd.R_below HV3.out hb); have HT4 := Aside0.mk (Kd.R_below HT3.out hb); have HU4 := Aside0.mk (Kd.R_below HU3.out hb); have BP4 := Aside0.mk (blk_below BP3.out hb); have HB4 := Aside0.mk (bl_next HB3.out hb); clear s0 s1 HT3 HU3 HV3 BP3 HB3; have s0 := cell_two BP4.out 0 rfl; have s1 := cell_two BP4.out 1 rfl; clear hb)
      | (go_at_call 10; refine (awake_any _).mono ?_; rintro e Wz ⟨rfl, hb⟩; have HBz := Aside0.mk (bl_next HB4.out hb); clear hb))
    go_ret
    exact ⟨rfl, HBz.out⟩
  · have hf2 : decide (flow < 0) = false := decide_eq_false (by omega)
    have hf3 : decide ((l.length : Int) ≤ flow) = true := decide_eq_true hf
    have hf4 : decide (((tightL pl l).length : Int) ≤ flow) = true := decide_eq_true (by omega)
    go_enter Try.func7, Try.ntmps7
    go_wp2_with (first
      | (go_at_call 19; refine (wrong_call (r := ([], 4)) HW19.out (Kd.C_below HR.out (by repeat (first | exact Below.refl _ _ | apply below_alloc))) hc).mono ?_; rintro e W1 ⟨v, rfl, hR, hb⟩; obtain ⟨A1, c1, rfl⟩ := Kd.R_slice hR; have HT1 := Aside0.mk hR; have BP1 := Aside0.mk (blk_below (blk_new w (.cells #[.int .i64 pl, .slice A l.length c] 24)) hb); have HB1 := Aside0.mk (bl_next (below_alloc (Below.refl _ _) _) hb); have s0 := cell_two BP1.out 0 rfl; have s1 := cell_two BP1.out 1 rfl; clear hR hb)
      | (go_at_call 13; refine (tight_call (r := (tightL pl l, 0)) HW13.out (Kd.C_below HR.out HB1.out) hc).mono ?_; rintro e W2 ⟨v, rfl, hR, hb⟩; obtain ⟨A2, c2, rfl⟩ := Kd.R_slice hR; have HU2 := Aside0.mk hR; have HT2 := Aside0.mk (Kd.R_below HT1.out hb); have BP2 := Aside0.mk (blk_below BP1.out hb); have HB2 := Aside0.mk (bl_next HB1.out hb); clear s0 s1 HT1 BP1 HB1; have s0 := cell_two BP2.out 0 rfl; have s1 := cell_two BP2.out 1 rfl; clear hR hb)
      | (go_at_call 17; refine (why_call (r := ([], 2)) HW17.out (Kd.C_below HR.out HB2.out) hc).mono ?_; rintro e W3 ⟨v, rfl, hR, hb⟩; obtain ⟨A3, c3, rfl⟩ := Kd.R_slice hR; have HV3 := Aside0.mk hR; have HT3 := Aside0.mk (Kd.R_below HT2.out hb); have HU3 := Aside0.mk (Kd.R_below HU2.out hb); have BP3 := Aside0.mk (blk_below BP2.out hb); have HB3 := Aside0.mk (bl_next HB2.out hb); clear s0 s1 HT2 HU2 BP2 HB2; have s0 := cell_two BP3.out 0 rfl; have s1 := cell_two BP3.out 1 rfl; clear hR hb)
      | (go_at_call 23; refine (plant_call HP.out (Kd.C_below HR.out HB3.out) hc).mono ?_; rintro e W4 ⟨rfl, hb⟩; have HV4 := Aside0.mk (Kd.R_below HV3.out hb); have HT4 := Aside0.mk (Kd.R_below HT3.out hb); have HU4 := Aside0.mk (Kd.R_below HU3.out hb); have BP4 := Aside0.mk (blk_below BP3.out hb); have HB4 := Aside0.mk (bl_next HB3.out hb); clear s0 s1 HT3 HU3 HV3 BP3 HB3; have s0 := cell_two BP4.out 0 rfl; have s1 := cell_two BP4.out 1 rfl; clear hb)
      | (go_at_call 10; refine (awake_any _).mono ?_; rintro e Wz ⟨rfl, hb⟩; have HBz := Aside0.mk (bl_next HB4.out hb); clear hb))
    go_ret
    exact ⟨rfl, HBz.out⟩

end Go.Proofs.Ytalgbihpidpblaa.Print
