/- BalanceProved: the way with a truth. -/
import Derived.Test.YtalgbihpidpblaaHK
namespace Go.Proofs.Ytalgbihpidpblaa.Print
open Go.RowKit Go.Shelf Go.Proofs.YtalgbihpidpblaaW.PrintWords Go.Proofs.YtalgbihpidpblaaW.PrintLast Go.Proofs.YtalgbihpidpblaaW.PrintMore
set_option linter.unusedVariables false
set_option linter.unusedSimpArgs false

theorem tight_rd (pl : Int) (l : List S47) (k : Int) (h0 : 0 ≤ k) (h1 : k < l.length) : rd_T45 (tightL pl l) k = ⟨(boundS false pl l k).1, (boundS true pl l k).1⟩ := by
  obtain ⟨n, rfl⟩ := Int.eq_ofNat_of_zero_le h0
  have hn : n < l.length := by omega
  simp [rd_T45, tightL, tightAt, List.getD_eq_getElem?_getD, hn]

set_option maxHeartbeats 4000000 in
set_option maxRecDepth 100000 in
theorem proved_own_least (pl : Int) (A : Option Addr) (c : Nat) (l : List S47) (flow : Int) (w : World) (hr : Kd.C k47 w A l.length l) (hc : l.length ≤ c) (hl : ¬ (l.length : Int) > 20) (hp : isPlantB pl l = true) (h19 : wrongS pl l = ([], 4)) (h13 : tightS pl l = (tightL pl l, 0)) (h17 : whyS pl l flow false = ([], 4)) (hf0 : 0 ≤ flow) (hf1 : flow < l.length) (he : (boundS false pl l flow).1 = (rd_T47 l flow).f2.f0) :
    Calls Try.prog 7 #[.agg #[.int .i64 pl, .slice A l.length c], .int .i64 flow, .bool false] w fun e w' => e = .returned (.bool true) ∧ Below w.heap.size w w' := by
  have HR := Aside0.mk hr
  clear hr
  have HW19 := Aside0.mk h19
  clear h19
  have HW13 := Aside0.mk h13
  clear h13
  have HW17 := Aside0.mk h17
  clear h17
  have HP := Aside0.mk hp
  clear hp
  have hl2 : decide ((l.length : Int) > 20) = false := decide_eq_false hl
  have hn : (tightL pl l).length = l.length := by simp [tightL]
  have hf2 : decide (flow < 0) = false := decide_eq_false (by omega)
  have hf3 : decide ((l.length : Int) ≤ flow) = false := decide_eq_false (by omega)
  have hf4 : decide (((tightL pl l).length : Int) ≤ flow) = false := decide_eq_false (by omega)
  have hf5 : flow < ((tightL pl l).length : Int) := by omega
  have hx := tight_rd pl l flow hf0 hf1
  obtain ⟨ad, e, g0, g1, g2, g3⟩ := at_T47 HR.out flow hf0 hf1
  cases e
  go_enter Try.func7, Try.ntmps7
  go_wp2_with (first
    | (go_at_call 19; refine (wrong_call (r := ([], 4)) HW19.out (Kd.C_below HR.out (by repeat (first | exact Below.refl _ _ | apply below_alloc))) hc).mono ?_; rintro e W1 ⟨v, rfl, hR, hb⟩; obtain ⟨A1, c1, rfl⟩ := Kd.R_slice hR; have HT1 := Aside0.mk hR; have BP1 := Aside0.mk (blk_below (blk_new w (.cells #[.int .i64 pl, .slice (some ad) l.length c] 24)) hb); have HB1 := Aside0.mk (bl_next (below_alloc (Below.refl _ _) _) hb); have s0 := cell_two BP1.out 0 rfl; have s1 := cell_two BP1.out 1 rfl; clear hR hb)
    | (go_at_call 13; refine (tight_call (r := (tightL pl l, 0)) HW13.out (Kd.C_below HR.out HB1.out) hc).mono ?_; rintro e W2 ⟨v, rfl, hR, hb⟩; obtain ⟨A2, c2, rfl⟩ := Kd.R_slice hR; have HU2 := Aside0.mk hR; have HT2 := Aside0.mk (Kd.R_below HT1.out hb); have BP2 := Aside0.mk (blk_below BP1.out hb); have HB2 := Aside0.mk (bl_next HB1.out hb); clear s0 s1 HT1 BP1 HB1; have s0 := cell_two BP2.out 0 rfl; have s1 := cell_two BP2.out 1 rfl; clear hR hb)
    | (go_at_call 17; refine (why_call (r := ([], 4)) HW17.out (Kd.C_below HR.out HB2.out) hc).mono ?_; rintro e W3 ⟨v, rfl, hR, hb⟩; obtain ⟨A3, c3, rfl⟩ := Kd.R_slice hR; have HV3 := Aside0.mk hR; have HT3 := Aside0.mk (Kd.R_below HT2.out hb); have HU3 := Aside0.mk (Kd.R_below HU2.out hb); have BP3 := Aside0.mk (blk_below BP2.out hb); have HB3 := Aside0.mk (bl_next HB2.out hb); clear s0 s1 HT2 HU2 BP2 HB2; have s0 := cell_two BP3.out 0 rfl; have s1 := cell_two BP3.out 1 rfl; clear hR; have k0 := (HB3.out.cell (World.block_lt_of_cell? _ _ g0)).trans g0; have k1 := (HB3.out.cell (World.block_lt_of_cell? _ _ g1)).trans g1; have k2 := (HB3.out.cell (World.block_lt_of_cell? _ _ g2)).trans g2; have k3 := (HB3.out.cell (World.block_lt_of_cell? _ _ g3)).trans g3; clear hb)
    | (go_at_call 23; refine (plant_call HP.out (Kd.C_below HR.out HB3.out) hc).mono ?_; rintro e W4 ⟨rfl, hb⟩; have HV4 := Aside0.mk (Kd.R_below HV3.out hb); have HT4 := Aside0.mk (Kd.R_below HT3.out hb); have HU4 := Aside0.mk (Kd.R_below HU3.out hb); have BP4 := Aside0.mk (blk_below BP3.out hb); have HB4 := Aside0.mk (bl_next HB3.out hb); clear s0 s1 HT3 HU3 HV3 BP3 HB3; have s0 := cell_two BP4.out 0 rfl; have s1 := cell_two BP4.out 1 rfl; have y0 := (HB4.out.cell (World.block_lt_of_cell? _ _ g0)).trans g0; have y1 := (HB4.out.cell (World.block_lt_of_cell? _ _ g1)).trans g1; have y2 := (HB4.out.cell (World.block_lt_of_cell? _ _ g2)).trans g2; have y3 := (HB4.out.cell (World.block_lt_of_cell? _ _ g3)).trans g3; clear hb k0 k1 k2 k3))
  clear g0 g1 g2 g3 y0 y1 y2 y3
  have BX5 := Aside0.mk (blk_new W4 (.cells #[.int .i64 (rd_T47 l flow).f0, .int .i64 (rd_T47 l flow).f1, .int .i64 (rd_T47 l flow).f2.f0, .int .i64 (rd_T47 l flow).f2.f1] 47))
  have BP5 := Aside0.mk (blk_alloc BP4.out (.cells #[.int .i64 (rd_T47 l flow).f0, .int .i64 (rd_T47 l flow).f1, .int .i64 (rd_T47 l flow).f2.f0, .int .i64 (rd_T47 l flow).f2.f1] 47))
  have HU5 := Aside0.mk (Kd.R_alloc HU4.out (.cells #[.int .i64 (rd_T47 l flow).f0, .int .i64 (rd_T47 l flow).f1, .int .i64 (rd_T47 l flow).f2.f0, .int .i64 (rd_T47 l flow).f2.f1] 47))
  have HV5 := Aside0.mk (Kd.R_alloc HV4.out (.cells #[.int .i64 (rd_T47 l flow).f0, .int .i64 (rd_T47 l flow).f1, .int .i64 (rd_T47 l flow).f2.f0, .int .i64 (rd_T47 l flow).f2.f1] 47))
  have HB5 := Aside0.mk (below_alloc HB4.out (.cells #[.int .i64 (rd_T47 l flow).f0, .int .i64 (rd_T47 l flow).f1, .int .i64 (rd_T47 l flow).f2.f0, .int .i64 (rd_T47 l flow).f2.f1] 47))
  clear s0 s1 HT4 HU4 HV4 BP4 HB4
  generalize (W4.alloc (.cells #[.int .i64 (rd_T47 l flow).f0, .int .i64 (rd_T47 l flow).f1, .int .i64 (rd_T47 l flow).f2.f0, .int .i64 (rd_T47 l flow).f2.f1] 47)) = W5 at *
  generalize W4.heap.size = gx at *
  have x0 := cell_two BX5.out 0 rfl
  have x1 := cell_two BX5.out 1 rfl
  have x2 := cell_two BX5.out 2 rfl
  have x3 := cell_two BX5.out 3 rfl
  obtain ⟨ad2, e, u0, u1⟩ := at_T45 (Kd.R_reads' HU5.out).2.2 flow hf0 hf5
  cases e
  rw [hx] at u0 u1
  go_big_region
  have he2 : ((boundS false pl l flow).1 == (rd_T47 l flow).f2.f0) = true := by simp [he]
  go_wp2_with ((go_at_call 10; refine (awake_any _).mono ?_; rintro e Wz ⟨rfl, hb⟩; have HBz := Aside0.mk (bl_next (by repeat (first | exact HB5.out | apply below_drew1 | apply pw_below_drewN)) hb); clear hb))
  go_ret
  exact ⟨rfl, HBz.out⟩

set_option maxHeartbeats 4000000 in
set_option maxRecDepth 100000 in
theorem proved_own_most (pl : Int) (A : Option Addr) (c : Nat) (l : List S47) (flow : Int) (w : World) (hr : Kd.C k47 w A l.length l) (hc : l.length ≤ c) (hl : ¬ (l.length : Int) > 20) (hp : isPlantB pl l = true) (h19 : wrongS pl l = ([], 4)) (h13 : tightS pl l = (tightL pl l, 0)) (h17 : whyS pl l flow true = ([], 4)) (hf0 : 0 ≤ flow) (hf1 : flow < l.length) (he : (boundS true pl l flow).1 = (rd_T47 l flow).f2.f1) :
    Calls Try.prog 7 #[.agg #[.int .i64 pl, .slice A l.length c], .int .i64 flow, .bool true] w fun e w' => e = .returned (.bool true) ∧ Below w.heap.size w w' := by
  have HR := Aside0.mk hr
  clear hr
  have HW19 := Aside0.mk h19
  clear h19
  have HW13 := Aside0.mk h13
  clear h13
  have HW17 := Aside0.mk h17
  clear h17
  have HP := Aside0.mk hp
  clear hp
  have hl2 : decide ((l.length : Int) > 20) = false := decide_eq_false hl
  have hn : (tightL pl l).length = l.length := by simp [tightL]
  have hf2 : decide (flow < 0) = false := decide_eq_false (by omega)
  have hf3 : decide ((l.length : Int) ≤ flow) = false := decide_eq_false (by omega)
  have hf4 : decide (((tightL pl l).length : Int) ≤ flow) = false := decide_eq_false (by omega)
  have hf5 : flow < ((tightL pl l).length : Int) := by omega
  have hx := tight_rd pl l flow hf0 hf1
  obtain ⟨ad, e, g0, g1, g2, g3⟩ := at_T47 HR.out flow hf0 hf1
  cases e
  go_enter Try.func7, Try.ntmps7
  go_wp2_with (first
    | (go_at_call 19; refine (wrong_call (r := ([], 4)) HW19.out (Kd.C_below HR.out (by repeat (first | exact Below.refl _ _ | apply below_alloc))) hc).mono ?_; rintro e W1 ⟨v, rfl, hR, hb⟩; obtain ⟨A1, c1, rfl⟩ := Kd.R_slice hR; have HT1 := Aside0.mk hR; have BP1 := Aside0.mk (blk_below (blk_new w (.cells #[.int .i64 pl, .slice (some ad) l.length c] 24)) hb); have HB1 := Aside0.mk (bl_next (below_alloc (Below.refl _ _) _) hb); have s0 := cell_two BP1.out 0 rfl; have s1 := cell_two BP1.out 1 rfl; clear hR hb)
    | (go_at_call 13; refine (tight_call (r := (tightL pl l, 0)) HW13.out (Kd.C_below HR.out HB1.out) hc).mono ?_; rintro e W2 ⟨v, rfl, hR, hb⟩; obtain ⟨A2, c2, rfl⟩ := Kd.R_slice hR; have HU2 := Aside0.mk hR; have HT2 := Aside0.mk (Kd.R_below HT1.out hb); have BP2 := Aside0.mk (blk_below BP1.out hb); have HB2 := Aside0.mk (bl_next HB1.out hb); clear s0 s1 HT1 BP1 HB1; have s0 := cell_two BP2.out 0 rfl; have s1 := cell_two BP2.out 1 rfl; clear hR hb)
    | (go_at_call 17; refine (why_call (r := ([], 4)) HW17.out (Kd.C_below HR.out HB2.out) hc).mono ?_; rintro e W3 ⟨v, rfl, hR, hb⟩; obtain ⟨A3, c3, rfl⟩ := Kd.R_slice hR; have HV3 := Aside0.mk hR; have HT3 := Aside0.mk (Kd.R_below HT2.out hb); have HU3 := Aside0.mk (Kd.R_below HU2.out hb); have BP3 := Aside0.mk (blk_below BP2.out hb); have HB3 := Aside0.mk (bl_next HB2.out hb); clear s0 s1 HT2 HU2 BP2 HB2; have s0 := cell_two BP3.out 0 rfl; have s1 := cell_two BP3.out 1 rfl; clear hR; have k0 := (HB3.out.cell (World.block_lt_of_cell? _ _ g0)).trans g0; have k1 := (HB3.out.cell (World.block_lt_of_cell? _ _ g1)).trans g1; have k2 := (HB3.out.cell (World.block_lt_of_cell? _ _ g2)).trans g2; have k3 := (HB3.out.cell (World.block_lt_of_cell? _ _ g3)).trans g3; clear hb)
    | (go_at_call 23; refine (plant_call HP.out (Kd.C_below HR.out HB3.out) hc).mono ?_; rintro e W4 ⟨rfl, hb⟩; have HV4 := Aside0.mk (Kd.R_below HV3.out hb); have HT4 := Aside0.mk (Kd.R_below HT3.out hb); have HU4 := Aside0.mk (Kd.R_below HU3.out hb); have BP4 := Aside0.mk (blk_below BP3.out hb); have HB4 := Aside0.mk (bl_next HB3.out hb); clear s0 s1 HT3 HU3 HV3 BP3 HB3; have s0 := cell_two BP4.out 0 rfl; have s1 := cell_two BP4.out 1 rfl; have y0 := (HB4.out.cell (World.block_lt_of_cell? _ _ g0)).trans g0; have y1 := (HB4.out.cell (World.block_lt_of_cell? _ _ g1)).trans g1; have y2 := (HB4.out.cell (World.block_lt_of_cell? _ _ g2)).trans g2; have y3 := (HB4.out.cell (World.block_lt_of_cell? _ _ g3)).trans g3; clear hb k0 k1 k2 k3))
  clear g0 g1 g2 g3 y0 y1 y2 y3
  have BX5 := Aside0.mk (blk_new W4 (.cells #[.int .i64 (rd_T47 l flow).f0, .int .i64 (rd_T47 l flow).f1, .int .i64 (rd_T47 l flow).f2.f0, .int .i64 (rd_T47 l flow).f2.f1] 47))
  have BP5 := Aside0.mk (blk_alloc BP4.out (.cells #[.int .i64 (rd_T47 l flow).f0, .int .i64 (rd_T47 l flow).f1, .int .i64 (rd_T47 l flow).f2.f0, .int .i64 (rd_T47 l flow).f2.f1] 47))
  have HU5 := Aside0.mk (Kd.R_alloc HU4.out (.cells #[.int .i64 (rd_T47 l flow).f0, .int .i64 (rd_T47 l flow).f1, .int .i64 (rd_T47 l flow).f2.f0, .int .i64 (rd_T47 l flow).f2.f1] 47))
  have HV5 := Aside0.mk (Kd.R_alloc HV4.out (.cells #[.int .i64 (rd_T47 l flow).f0, .int .i64 (rd_T47 l flow).f1, .int .i64 (rd_T47 l flow).f2.f0, .int .i64 (rd_T47 l flow).f2.f1] 47))
  have HB5 := Aside0.mk (below_alloc HB4.out (.cells #[.int .i64 (rd_T47 l flow).f0, .int .i64 (rd_T47 l flow).f1, .int .i64 (rd_T47 l flow).f2.f0, .int .i64 (rd_T47 l flow).f2.f1] 47))
  clear s0 s1 HT4 HU4 HV4 BP4 HB4
  generalize (W4.alloc (.cells #[.int .i64 (rd_T47 l flow).f0, .int .i64 (rd_T47 l flow).f1, .int .i64 (rd_T47 l flow).f2.f0, .int .i64 (rd_T47 l flow).f2.f1] 47)) = W5 at *
  generalize W4.heap.size = gx at *
  have x0 := cell_two BX5.out 0 rfl
  have x1 := cell_two BX5.out 1 rfl
  have x2 := cell_two BX5.out 2 rfl
  have x3 := cell_two BX5.out 3 rfl
  obtain ⟨ad2, e, u0, u1⟩ := at_T45 (Kd.R_reads' HU5.out).2.2 flow hf0 hf5
  cases e
  rw [hx] at u0 u1
  go_big_region
  go_wp2_with (fail)
  go_big_region
  have he2 : ((boundS true pl l flow).1 == (rd_T47 l flow).f2.f1) = true := by simp [he]
  go_wp2_with ((go_at_call 10; refine (awake_any _).mono ?_; rintro e Wz ⟨rfl, hb⟩; have HBz := Aside0.mk (bl_next (by repeat (first | exact HB5.out | apply below_drew1 | apply pw_below_drewN)) hb); clear hb))
  go_ret
  exact ⟨rfl, HBz.out⟩

end Go.Proofs.Ytalgbihpidpblaa.Print
