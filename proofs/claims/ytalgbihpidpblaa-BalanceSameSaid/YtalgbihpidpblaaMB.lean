/- BalanceSame: the law's function, walked: the first ways out. -/
import Derived.Test.YtalgbihpidpblaaMA
import Derived.Test.YtalgbihpidpblaaHH
namespace Go.Proofs.Ytalgbihpidpblaa.Print
open Go.RowKit Go.Shelf Go.Proofs.YtalgbihpidpblaaW.PrintWords Go.Proofs.YtalgbihpidpblaaW.PrintLast Go.Proofs.YtalgbihpidpblaaW.PrintMore
set_option linter.unusedVariables false
set_option linter.unusedSimpArgs false

def BackSame (w : World) (e : Ending) (w' : World) : Prop := e = .returned (.bool true) ∧ Below w.heap.size w w'

set_option maxHeartbeats 4000000 in
set_option maxRecDepth 100000 in
theorem same_long (pl : Int) (A : Option Addr) (c : Nat) (l : List S47) (a1 a2 : Int) (w : World) (h : 16 ≤ l.length) :
    Calls Try.prog 8 #[.agg #[.int .i64 pl, .slice A l.length c], .int .u8 a1, .int .u8 a2] w (BackSame w) := by
  have d1 : decide ((16 : Int) ≤ (l.length : Int)) = true := decide_eq_true (by omega)
  clear h
  go_enter Try.func8, Try.ntmps8
  go_wp2_with (go_at_call 10; refine (awake_any _).mono ?_; rintro e W1 ⟨rfl, hb⟩; have HB1 := Aside0.mk (bl_next (below_alloc (Below.refl w.heap.size w) _) hb); clear hb)
  go_ret
  exact ⟨rfl, HB1.out⟩

theorem plant_call4 {pl : Int} {A : Option Addr} {c : Nat} {l : List S47} {r : Bool} {w : World} (h : isPlantB pl l = r) (hr : Kd.C k47 w A l.length l) (hc : l.length ≤ c) :
    Calls Try.prog 23 #[.agg #[.int .i64 pl, .slice A l.length c]] w fun e w' => e = .returned (.bool r) ∧ Below w.heap.size w w' := by subst h; exact Plant_any _ _ _ _ _ hr hc

set_option maxHeartbeats 4000000 in
set_option maxRecDepth 100000 in
theorem same_bad (pl : Int) (A : Option Addr) (c : Nat) (l : List S47) (a1 a2 : Int) (w : World) (hr : Kd.C k47 w A l.length l) (hc : l.length ≤ c) (h : l.length < 16) (hp : isPlantB pl l = false) :
    Calls Try.prog 8 #[.agg #[.int .i64 pl, .slice A l.length c], .int .u8 a1, .int .u8 a2] w (BackSame w) := by
  have d1 : decide ((16 : Int) ≤ (l.length : Int)) = false := decide_eq_false (by omega)
  have e1 : errS pl l = 1 := by unfold errS; rw [if_neg (by rw [hp]; decide)]
  have HT := Aside0.mk (show tightS pl l = ([], 1) by unfold tightS; rw [e1]; rfl)
  have HW := Aside0.mk (show wrongS pl l = ([], 1) by unfold wrongS; simp [hp])
  have HR := Aside0.mk hr
  clear hr h hp e1
  go_enter Try.func8, Try.ntmps8
  go_wp2_with (first
    | (go_at_call 13; refine (tight_call HT.out (Kd.C_below HR.out (below_alloc (Below.refl _ _) _)) hc).mono ?_; rintro e W1 ⟨v, rfl, hR, hb⟩; obtain ⟨Ak, ck, rfl⟩ := Kd.R_slice hR; have HB1 := Aside0.mk (bl_next (below_alloc (Below.refl w.heap.size w) _) hb); have BP1 := Aside0.mk (blk_below (blk_new w (.cells #[.int .i64 pl, .slice A l.length c] 24)) hb); have s0 := cell_two BP1.out 0 rfl; have s1 := cell_two BP1.out 1 rfl; clear hb hR)
    | (go_at_call 19; refine (wrong_call HW.out (Kd.C_below HR.out HB1.out) hc).mono ?_; rintro e W2 ⟨v2, rfl, hR, hb⟩; obtain ⟨Aw, cw, rfl⟩ := Kd.R_slice hR; have HB2 := Aside0.mk (bl_next HB1.out hb); have BP2 := Aside0.mk (blk_below BP1.out hb); clear hb hR s0 s1; have s0 := cell_two BP2.out 0 rfl; have s1 := cell_two BP2.out 1 rfl)
    | (go_at_call 10; refine (awake_any _).mono ?_; rintro e W3 ⟨rfl, hb⟩; have HB3 := Aside0.mk (bl_next HB2.out hb); clear hb))
  go_ret
  exact ⟨rfl, HB3.out⟩
end Go.Proofs.Ytalgbihpidpblaa.Print
