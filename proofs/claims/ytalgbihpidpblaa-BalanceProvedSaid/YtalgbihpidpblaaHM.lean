/- BalanceProved: the way with a set, least. -/
import Derived.Test.YtalgbihpidpblaaHL
namespace Go.Proofs.Ytalgbihpidpblaa.Print
open Go.RowKit Go.Shelf Go.Proofs.YtalgbihpidpblaaW.PrintWords Go.Proofs.YtalgbihpidpblaaW.PrintLast Go.Proofs.YtalgbihpidpblaaW.PrintMore
set_option linter.unusedVariables false
set_option linter.unusedSimpArgs false

theorem inW_take_succ (ws : List Int) (p k : Int) (h0 : 0 ≤ k) (h : k < ws.length) : inW (ws.take (k + 1).toNat) p = (inW (ws.take k.toNat) p || rd ws k == p) := by
  obtain ⟨n, rfl⟩ := Int.eq_ofNat_of_zero_le h0
  have hn : n < ws.length := by omega
  rw [show ((n : Int) + 1).toNat = n + 1 from by omega, Int.toNat_natCast, List.take_succ_eq_append_getElem hn]
  have e : rd ws n = ws[n] := by simp [rd, List.getD_eq_getElem?_getD, hn]
  rw [e]
  simp only [inW, List.any_append, List.any_cons, List.any_nil, Bool.or_false]
theorem good_at (pl : Int) (l : List S47) (hp : isPlantB pl l = true) (k : Int) (h0 : 0 ≤ k) (h : k < l.length) : goodF pl (rd_T47 l k) ∧ pl ≤ 8 := by
  obtain ⟨_, h8, _, hg⟩ := plant_of pl l hp
  obtain ⟨n, rfl⟩ := Int.eq_ofNat_of_zero_le h0
  refine ⟨hg _ ?_, h8⟩
  rw [rd_T45_eq _ _ (by omega)]
  exact List.getElem_mem _
theorem list_ne {pl : Int} {x : S47} (s : Int) (h : hasB s x.f0 = false) (hg : goodF pl x ∧ pl ≤ 8) (k : Int) (h0 : 0 ≤ k) (hk : k < (listS s).length) : (rd (listS s) k == x.f0) = false := by
  have := (listS_mem s _).1 (rd_mem (listS s) k h0 hk)
  rw [beq_eq_false_iff_ne]
  intro e
  rw [e, h] at this
  exact absurd this.2 (by decide)
theorem totalW_bound (ws : List Int) (but : Int) (side hi : Bool) (pl : Int) (l : List S47) (hp : isPlantB pl l = true) : 0 ≤ totalW ws but side hi l ∧ totalW ws but side hi l ≤ 17179869184 := by
  obtain ⟨_, _, hl, hg⟩ := plant_of pl l hp
  have := uptoW_bound ws but side hi pl l l.length hl hg
  rwa [upto_all _ _ _ rfl] at this

set_option maxHeartbeats 4000000 in
set_option maxRecDepth 100000 in
theorem proved_set_least (pl : Int) (A : Option Addr) (c : Nat) (l : List S47) (flow : Int) (w : World) (hr : Kd.C k47 w A l.length l) (hc : l.length ≤ c) (s : Int) (hl : ¬ (l.length : Int) > 20) (hp : isPlantB pl l = true) (h19 : wrongS pl l = ([], 4)) (h13 : tightS pl l = (tightL pl l, 0)) (h17 : whyS pl l flow false = (listS s, 0)) (hf0 : 0 ≤ flow) (hf1 : flow < l.length) (hs : s ∈ setsL pl) (hb1 : hasB s (rd_T47 l flow).f1 = true) (hb0 : hasB s (rd_T47 l flow).f0 = false) (hq : totalW (listS s) flow true false l - totalW (listS s) flow false true l = (boundS false pl l flow).1) (he : (boundS false pl l flow).1 ≠ (rd_T47 l flow).f2.f0) :
    Calls Try.prog 7 #[.agg #[.int .i64 pl, .slice A l.length c], .int .i64 flow, .bool false] w fun e w' => e = .returned (.bool true) ∧ Below w.heap.size w w' := by
  have HR := Aside0.mk hr
  clear hr
  have HW19 := Aside0.mk h19
  clear h19
  have HW13 := Aside0.mk h13
  clear h13
  have HW17 := Aside0.mk h17
  clear h17
  have HP := Aside0.mk hp
  clear hp
  have h8 := (plant_of pl l HP.out).2.1
  have hgd := good_at pl l HP.out flow hf0 hf1
  have HGF := Aside0.mk hgd
  clear hgd
  have HF0 := Aside0.mk hb0
  have hws : ∀ x ∈ listS s, 0 ≤ x ∧ x < 8 := fun x hx => ((listS_mem s x).1 hx).1
  have HWS := Aside0.mk hws
  have HF1 : Aside0 (inW (listS s) (rd_T47 l flow).f1 = true) := ⟨(inW_list s _ (by have := HGF.out; unfold goodF at this; omega) (by have := HGF.out; unfold goodF at this; omega)).trans hb1⟩
  have HSS := Aside0.mk hs
  have hlen := list_len s
  have v0 := totalW_bound (listS s) flow true false pl l HP.out
  have v1 := totalW_bound (listS s) flow true true pl l HP.out
  have v2 := totalW_bound (listS s) flow false false pl l HP.out
  have v3 := totalW_bound (listS s) flow false true pl l HP.out
  have he2 : (totalW (listS s) flow true false l - totalW (listS s) flow false true l == (boundS false pl l flow).1) = true := by simp [hq]
  have he3 : ((boundS false pl l flow).1 != (rd_T47 l flow).f2.f0) = true := by simp [he]
  clear hws hb0 hb1 hs hq he
  have hl2 : decide ((l.length : Int) > 20) = false := decide_eq_false hl
  have hn : (tightL pl l).length = l.length := by simp [tightL]
  have hf2 : decide (flow < 0) = false := decide_eq_false (by omega)
  have hf3 : decide ((l.length : Int) ≤ flow) = false := decide_eq_false (by omega)
  have hf4 : decide (((tightL pl l).length : Int) ≤ flow) = false := decide_eq_false (by omega)
  have hf5 : flow < ((tightL pl l).length : Int) := by omega
  have hx := tight_rd pl l flow hf0 hf1
  obtain ⟨ad, e, g0, g1, g2, g3⟩ := at_T47 HR.out flow hf0 hf1
  cases e
  go_enter Try.func7, Try.ntmps7
  go_wp2_with (first
    | (go_at_call 19; refine (wrong_call (r := ([], 4)) HW19.out (Kd.C_below HR.out (by repeat (first | exact Below.refl _ _ | apply below_alloc))) hc).mono ?_; rintro e W1 ⟨v, rfl, hR, hb⟩; obtain ⟨A1, c1, rfl⟩ := Kd.R_slice hR; have HT1 := Aside0.mk hR; have BP1 := Aside0.mk (blk_below (blk_new w (.cells #[.int .i64 pl, .slice (some ad) l.length c] 24)) hb); have HB1 := Aside0.mk (bl_next (below_alloc (Below.refl _ _) _) hb); have s0 := cell_two BP1.out 0 rfl; have s1 := cell_two BP1.out 1 rfl; clear hR hb)
    | (go_at_call 13; refine (tight_call (r := (tightL pl l, 0)) HW13.out (Kd.C_below HR.out HB1.out) hc).mono ?_; rintro e W2 ⟨v, rfl, hR, hb⟩; obtain ⟨A2, c2, rfl⟩ := Kd.R_slice hR; have HU2 := Aside0.mk hR; have HT2 := Aside0.mk (Kd.R_below HT1.out hb); have BP2 := Aside0.mk (blk_below BP1.out hb); have HB2 := Aside0.mk (bl_next HB1.out hb); clear s0 s1 HT1 BP1 HB1; have s0 := cell_two BP2.out 0 rfl; have s1 := cell_two BP2.out 1 rfl; clear hR hb)
    | (go_at_call 17; refine (why_call (r := (listS s, 0)) HW17.out (Kd.C_below HR.out HB2.out) hc).mono ?_; rintro e W3 ⟨v, rfl, hR, hb⟩; obtain ⟨A3, c3, rfl⟩ := Kd.R_slice hR; have HV3 := Aside0.mk hR; have HT3 := Aside0.mk (Kd.R_below HT2.out hb); have HU3 := Aside0.mk (Kd.R_below HU2.out hb); have BP3 := Aside0.mk (blk_below BP2.out hb); have HB3 := Aside0.mk (bl_next HB2.out hb); clear s0 s1 HT2 HU2 BP2 HB2; have s0 := cell_two BP3.out 0 rfl; have s1 := cell_two BP3.out 1 rfl; clear hR; have k0 := (HB3.out.cell (World.block_lt_of_cell? _ _ g0)).trans g0; have k1 := (HB3.out.cell (World.block_lt_of_cell? _ _ g1)).trans g1; have k2 := (HB3.out.cell (World.block_lt_of_cell? _ _ g2)).trans g2; have k3 := (HB3.out.cell (World.block_lt_of_cell? _ _ g3)).trans g3; clear hb)
    | (go_at_call 23; refine (plant_call HP.out (Kd.C_below HR.out HB3.out) hc).mono ?_; rintro e W4 ⟨rfl, hb⟩; have HV4 := Aside0.mk (Kd.R_below HV3.out hb); have HT4 := Aside0.mk (Kd.R_below HT3.out hb); have HU4 := Aside0.mk (Kd.R_below HU3.out hb); have BP4 := Aside0.mk (blk_below BP3.out hb); have HB4 := Aside0.mk (bl_next HB3.out hb); clear s0 s1 HT3 HU3 HV3 BP3 HB3; have s0 := cell_two BP4.out 0 rfl; have s1 := cell_two BP4.out 1 rfl; have y0 := (HB4.out.cell (World.block_lt_of_cell? _ _ g0)).trans g0; have y1 := (HB4.out.cell (World.block_lt_of_cell? _ _ g1)).trans g1; have y2 := (HB4.out.cell (World.block_lt_of_cell? _ _ g2)).trans g2; have y3 := (HB4.out.cell (World.block_lt_of_cell? _ _ g3)).trans g3; clear hb k0 k1 k2 k3))
  clear g0 g1 g2 g3 y0 y1 y2 y3
  have BX5 := Aside0.mk (blk_new W4 (.cells #[.int .i64 (rd_T47 l flow).f0, .int .i64 (rd_T47 l flow).f1, .int .i64 (rd_T47 l flow).f2.f0, .int .i64 (rd_T47 l flow).f2.f1] 47))
  have BP5 := Aside0.mk (blk_alloc BP4.out (.cells #[.int .i64 (rd_T47 l flow).f0, .int .i64 (rd_T47 l flow).f1, .int .i64 (rd_T47 l flow).f2.f0, .int .i64 (rd_T47 l flow).f2.f1] 47))
  have HU5 := Aside0.mk (Kd.R_alloc HU4.out (.cells #[.int .i64 (rd_T47 l flow).f0, .int .i64 (rd_T47 l flow).f1, .int .i64 (rd_T47 l flow).f2.f0, .int .i64 (rd_T47 l flow).f2.f1] 47))
  have HV5 := Aside0.mk (Kd.R_alloc HV4.out (.cells #[.int .i64 (rd_T47 l flow).f0, .int .i64 (rd_T47 l flow).f1, .int .i64 (rd_T47 l flow).f2.f0, .int .i64 (rd_T47 l flow).f2.f1] 47))
  have HB5 := Aside0.mk (below_alloc HB4.out (.cells #[.int .i64 (rd_T47 l flow).f0, .int .i64 (rd_T47 l flow).f1, .int .i64 (rd_T47 l flow).f2.f0, .int .i64 (rd_T47 l flow).f2.f1] 47))
  clear s0 s1 HT4 HU4 HV4 BP4 HB4
  generalize (W4.alloc (.cells #[.int .i64 (rd_T47 l flow).f0, .int .i64 (rd_T47 l flow).f1, .int .i64 (rd_T47 l flow).f2.f0, .int .i64 (rd_T47 l flow).f2.f1] 47)) = W5 at *
  generalize W4.heap.size = gx at *
  have x0 := cell_two BX5.out 0 rfl
  have x1 := cell_two BX5.out 1 rfl
  have x2 := cell_two BX5.out 2 rfl
  have x3 := cell_two BX5.out 3 rfl
  obtain ⟨ad2, e, u0, u1⟩ := at_T45 (Kd.R_reads' HU5.out).2.2 flow hf0 hf5
  cases e
  rw [hx] at u0 u1
  go_big_region
  go_wp2_with (fail)
  go_loopw [17, 18, 19] (fun va vb i wr => ∃ k : Int, i = .int .i64 k ∧ va = .bool false ∧ vb = .bool (inW ((listS s).take k.toNat) (rd_T47 l flow).f1) ∧ 0 ≤ k ∧ k ≤ (listS s).length ∧ Aside0 (wr.heap[w.heap.size]? = some (.cells #[.int .i64 pl, .slice (some ad) l.length c] 24 (0, 0))) ∧
    Aside0 (wr.heap[gx]? = some (.cells #[.int .i64 (rd_T47 l flow).f0, .int .i64 (rd_T47 l flow).f1, .int .i64 (rd_T47 l flow).f2.f0, .int .i64 (rd_T47 l flow).f2.f1] 47 (0, 0))) ∧ Aside0 (Kd.R (Kd.int .i64) 3 wr W2.heap.size (fun _ => True) (.slice A3 (listS s).length c3) (listS s)) ∧ Aside0 (Below w.heap.size w wr)) (fun _ _ i _ => (listS s).length - (intOf i).toNat)
  case atStart => exact ⟨0, rfl, rfl, rfl, by omega, by omega, ⟨by (with_reducible repeat (first | refine blk_drewN ?_ _ | refine blk_drew ?_)); exact BP5.out⟩, ⟨by (with_reducible repeat (first | refine blk_drewN ?_ _ | refine blk_drew ?_)); exact BX5.out⟩, ⟨by (with_reducible repeat (first | apply Kd.R_drewN | apply Kd.R_drew)); exact HV5.out⟩, ⟨by repeat (first | exact HB5.out | apply below_drew1 | apply pw_below_drewN)⟩⟩
  case round =>
    obtain ⟨k, rfl, rfl, rfl, hk0, hk, HY0, HYX, HY1, HB⟩ := hrel
    clear x0 x1 x2 x3 u0 u1 BX5 BP5 HU5 HV5 HB5
    have s0 := cell_two HY0.out 0 rfl
    have s1 := cell_two HY0.out 1 rfl
    have x0 := cell_two HYX.out 0 rfl
    have x1 := cell_two HYX.out 1 rfl
    by_cases hlt : k < (listS s).length
    · have hlt' : decide (k < (listS s).length) = true := decide_eq_true hlt
      have hxr := list_rd pl s h8 HSS.out k hk0 hlt
      have w0 : decide (rd (listS s) k < 0) = false := decide_eq_false (by omega)
      have w1 : decide (pl ≤ rd (listS s) k) = false := decide_eq_false (by omega)
      have w2 : (rd (listS s) k == (rd_T47 l flow).f0) = false := list_ne s HF0.out HGF.out k hk0 hlt
      obtain ⟨ad3, e, g0⟩ := Kd.at_int (Kd.R_reads' HY1.out).2.2 k hk0 hlt
      cases e
      by_cases hz : k = 0
      · have hz2 : decide (0 < k) = false := decide_eq_false (by omega)
        clear hk hxr hz
        go_wp2_with (fail)
        go_big_region
        go_wp2_with (fail)
        cases hT : inW ((listS s).take k.toNat) (rd_T47 l flow).f1 <;> cases hE : (rd (listS s) k == (rd_T47 l flow).f1)
        · have hS := inW_take_succ (listS s) (rd_T47 l flow).f1 k hk0 hlt
          rw [hT, hE] at hS
          go_big_region
          go_wp2_with (fail)
          go_roundw
          case rel => exact ⟨k + 1, rfl, rfl, by rw [hS]; rfl, by omega, by omega, ⟨by (with_reducible repeat (first | refine blk_drewN ?_ _ | refine blk_drew ?_)); exact HY0.out⟩, ⟨by (with_reducible repeat (first | refine blk_drewN ?_ _ | refine blk_drew ?_)); exact HYX.out⟩, ⟨by (with_reducible repeat (first | apply Kd.R_drewN | apply Kd.R_drew)); exact HY1.out⟩, ⟨by repeat (first | exact HB.out | apply below_drew1 | apply pw_below_drewN)⟩⟩
          case measure => simp [intOf]; omega
        · have hS := inW_take_succ (listS s) (rd_T47 l flow).f1 k hk0 hlt
          rw [hT, hE] at hS
          go_big_region
          go_wp2_with (fail)
          go_roundw
          case rel => exact ⟨k + 1, rfl, rfl, by rw [hS]; rfl, by omega, by omega, ⟨by (with_reducible repeat (first | refine blk_drewN ?_ _ | refine blk_drew ?_)); exact HY0.out⟩, ⟨by (with_reducible repeat (first | refine blk_drewN ?_ _ | refine blk_drew ?_)); exact HYX.out⟩, ⟨by (with_reducible repeat (first | apply Kd.R_drewN | apply Kd.R_drew)); exact HY1.out⟩, ⟨by repeat (first | exact HB.out | apply below_drew1 | apply pw_below_drewN)⟩⟩
          case measure => simp [intOf]; omega
        · have hS := inW_take_succ (listS s) (rd_T47 l flow).f1 k hk0 hlt
          rw [hT, hE] at hS
          go_big_region
          go_wp2_with (fail)
          go_roundw
          case rel => exact ⟨k + 1, rfl, rfl, by rw [hS]; rfl, by omega, by omega, ⟨by (with_reducible repeat (first | refine blk_drewN ?_ _ | refine blk_drew ?_)); exact HY0.out⟩, ⟨by (with_reducible repeat (first | refine blk_drewN ?_ _ | refine blk_drew ?_)); exact HYX.out⟩, ⟨by (with_reducible repeat (first | apply Kd.R_drewN | apply Kd.R_drew)); exact HY1.out⟩, ⟨by repeat (first | exact HB.out | apply below_drew1 | apply pw_below_drewN)⟩⟩
          case measure => simp [intOf]; omega
        · have hS := inW_take_succ (listS s) (rd_T47 l flow).f1 k hk0 hlt
          rw [hT, hE] at hS
          go_big_region
          go_wp2_with (fail)
          go_roundw
          case rel => exact ⟨k + 1, rfl, rfl, by rw [hS]; rfl, by omega, by omega, ⟨by (with_reducible repeat (first | refine blk_drewN ?_ _ | refine blk_drew ?_)); exact HY0.out⟩, ⟨by (with_reducible repeat (first | refine blk_drewN ?_ _ | refine blk_drew ?_)); exact HYX.out⟩, ⟨by (with_reducible repeat (first | apply Kd.R_drewN | apply Kd.R_drew)); exact HY1.out⟩, ⟨by repeat (first | exact HB.out | apply below_drew1 | apply pw_below_drewN)⟩⟩
          case measure => simp [intOf]; omega
      · have hz1 : (0 : Int) < k := by omega
        have hz2 : decide (0 < k) = true := decide_eq_true hz1
        have hu := list_up s k hz1 hlt
        have w3 : decide (rd (listS s) k ≤ rd (listS s) (k - 1)) = false := decide_eq_false (by omega)
        obtain ⟨ad', e, g1⟩ := Kd.at_int (Kd.R_reads' HY1.out).2.2 (k - 1) (by omega) (by omega)
        cases e
        rw [show (k - 1).toNat = k.toNat - 1 from by omega] at g1
        clear hxr hu hz
        go_wp2_with (fail)
        go_big_region
        go_wp2_with (fail)
        cases hT : inW ((listS s).take k.toNat) (rd_T47 l flow).f1 <;> cases hE : (rd (listS s) k == (rd_T47 l flow).f1)
        · have hS := inW_take_succ (listS s) (rd_T47 l flow).f1 k hk0 hlt
          rw [hT, hE] at hS
          go_big_region
          go_wp2_with (fail)
          go_roundw
          case rel => exact ⟨k + 1, rfl, rfl, by rw [hS]; rfl, by omega, by omega, ⟨by (with_reducible repeat (first | refine blk_drewN ?_ _ | refine blk_drew ?_)); exact HY0.out⟩, ⟨by (with_reducible repeat (first | refine blk_drewN ?_ _ | refine blk_drew ?_)); exact HYX.out⟩, ⟨by (with_reducible repeat (first | apply Kd.R_drewN | apply Kd.R_drew)); exact HY1.out⟩, ⟨by repeat (first | exact HB.out | apply below_drew1 | apply pw_below_drewN)⟩⟩
          case measure => simp [intOf]; omega
        · have hS := inW_take_succ (listS s) (rd_T47 l flow).f1 k hk0 hlt
          rw [hT, hE] at hS
          go_big_region
          go_wp2_with (fail)
          go_roundw
          case rel => exact ⟨k + 1, rfl, rfl, by rw [hS]; rfl, by omega, by omega, ⟨by (with_reducible repeat (first | refine blk_drewN ?_ _ | refine blk_drew ?_)); exact HY0.out⟩, ⟨by (with_reducible repeat (first | refine blk_drewN ?_ _ | refine blk_drew ?_)); exact HYX.out⟩, ⟨by (with_reducible repeat (first | apply Kd.R_drewN | apply Kd.R_drew)); exact HY1.out⟩, ⟨by repeat (first | exact HB.out | apply below_drew1 | apply pw_below_drewN)⟩⟩
          case measure => simp [intOf]; omega
        · have hS := inW_take_succ (listS s) (rd_T47 l flow).f1 k hk0 hlt
          rw [hT, hE] at hS
          go_big_region
          go_wp2_with (fail)
          go_roundw
          case rel => exact ⟨k + 1, rfl, rfl, by rw [hS]; rfl, by omega, by omega, ⟨by (with_reducible repeat (first | refine blk_drewN ?_ _ | refine blk_drew ?_)); exact HY0.out⟩, ⟨by (with_reducible repeat (first | refine blk_drewN ?_ _ | refine blk_drew ?_)); exact HYX.out⟩, ⟨by (with_reducible repeat (first | apply Kd.R_drewN | apply Kd.R_drew)); exact HY1.out⟩, ⟨by repeat (first | exact HB.out | apply below_drew1 | apply pw_below_drewN)⟩⟩
          case measure => simp [intOf]; omega
        · have hS := inW_take_succ (listS s) (rd_T47 l flow).f1 k hk0 hlt
          rw [hT, hE] at hS
          go_big_region
          go_wp2_with (fail)
          go_roundw
          case rel => exact ⟨k + 1, rfl, rfl, by rw [hS]; rfl, by omega, by omega, ⟨by (with_reducible repeat (first | refine blk_drewN ?_ _ | refine blk_drew ?_)); exact HY0.out⟩, ⟨by (with_reducible repeat (first | refine blk_drewN ?_ _ | refine blk_drew ?_)); exact HYX.out⟩, ⟨by (with_reducible repeat (first | apply Kd.R_drewN | apply Kd.R_drew)); exact HY1.out⟩, ⟨by repeat (first | exact HB.out | apply below_drew1 | apply pw_below_drewN)⟩⟩
          case measure => simp [intOf]; omega
    · have hlt' : decide (k < (listS s).length) = false := decide_eq_false hlt
      have ek : (listS s).take k.toNat = listS s := List.take_of_length_le (by omega)
      have eT : inW ((listS s).take k.toNat) (rd_T47 l flow).f1 = true := by rw [ek]; exact HF1.out
      rw [eT]
      clear ek eT x0 x1 HYX
      have HS := HY1
      clear HY1 hk0 hk hlt
      go_wp2_with (fail)
      refine wp_region_held_drew (S := fun w' => w'.cell? ⟨w.heap.size, 0, none⟩ = some (.int .i64 pl) ∧ w'.cell? ⟨w.heap.size, 1, none⟩ = some (.slice (some ad) l.length c)) (by kernel_rfl) (⟨s0, s1⟩) (fun hHeld => ?_)
      replace HS := Aside0.mk (Kd.R_drew HS.out)
      replace HB := Aside0.mk HB.out.drew
      change _ = _ at s0
      generalize hWd : wr.drew = Wd at *
      have s0 : Wd.cell? ⟨w.heap.size, 0, none⟩ = _ := hHeld.1
      have s1 : Wd.cell? ⟨w.heap.size, 1, none⟩ = _ := hHeld.2
      clear hWd
      refine wpAnyH_take (i := 0) (oi := { dst := some 282, op := Op.load 24 (Operand.tmp 3), type := 24, pos := "outright.go:175", after := #[], guard := none }) (v := ?vb1) rfl (by kernel_rfl) (by kernel_rfl) (by kernel_rfl) (fun _ _ _ h => h) (Or.inl ⟨by rfl, ?hyb1⟩) (by assumption) ?_
      case hyb1 => (intro wq hSw; (try dsimp only at hSw); go_simp; try (with_reducible rfl))
      try simp only [Act.put, List.setIfInBounds_toArray, List.set_cons_zero, List.set_cons_succ]
      refine wpAnyH_take (i := 1) (oi := { dst := some 283, op := Op.move (Operand.tmp 11), type := 27, pos := "outright.go:175", after := #[], guard := none }) (v := ?vb2) rfl (by kernel_rfl) (by kernel_rfl) (by kernel_rfl) (fun _ _ _ h => h) (Or.inl ⟨by rfl, ?hyb2⟩) (by assumption) ?_
      case hyb2 => (intro wq hSw; (try dsimp only at hSw); go_simp; try (with_reducible rfl))
      try simp only [Act.put, List.setIfInBounds_toArray, List.set_cons_zero, List.set_cons_succ]
      refine wpAnyH_take (i := 2) (oi := { dst := some 284, op := Op.move (Operand.tmp 1), type := 3, pos := "outright.go:175", after := #[], guard := none }) (v := ?vb3) rfl (by kernel_rfl) (by kernel_rfl) (by kernel_rfl) (fun _ _ _ h => h) (Or.inl ⟨by rfl, ?hyb3⟩) (by assumption) ?_
      case hyb3 => (intro wq hSw; (try dsimp only at hSw); go_simp; try (with_reducible rfl))
      try simp only [Act.put, List.setIfInBounds_toArray, List.set_cons_zero, List.set_cons_succ]
      refine wpAnyH_take (i := 4) (oi := { dst := some 286, op := Op.load 24 (Operand.tmp 3), type := 24, pos := "outright.go:175", after := #[], guard := none }) (v := ?vb4) rfl (by kernel_rfl) (by kernel_rfl) (by kernel_rfl) (fun _ _ _ h => h) (Or.inl ⟨by rfl, ?hyb4⟩) (by assumption) ?_
      case hyb4 => (intro wq hSw; (try dsimp only at hSw); go_simp; try (with_reducible rfl))
      try simp only [Act.put, List.setIfInBounds_toArray, List.set_cons_zero, List.set_cons_succ]
      refine wpAnyH_take (i := 5) (oi := { dst := some 287, op := Op.move (Operand.tmp 11), type := 27, pos := "outright.go:175", after := #[], guard := none }) (v := ?vb5) rfl (by kernel_rfl) (by kernel_rfl) (by kernel_rfl) (fun _ _ _ h => h) (Or.inl ⟨by rfl, ?hyb5⟩) (by assumption) ?_
      case hyb5 => (intro wq hSw; (try dsimp only at hSw); go_simp; try (with_reducible rfl))
      try simp only [Act.put, List.setIfInBounds_toArray, List.set_cons_zero, List.set_cons_succ]
      refine wpAnyH_take (i := 6) (oi := { dst := some 288, op := Op.move (Operand.tmp 1), type := 3, pos := "outright.go:175", after := #[], guard := none }) (v := ?vb6) rfl (by kernel_rfl) (by kernel_rfl) (by kernel_rfl) (fun _ _ _ h => h) (Or.inl ⟨by rfl, ?hyb6⟩) (by assumption) ?_
      case hyb6 => (intro wq hSw; (try dsimp only at hSw); go_simp; try (with_reducible rfl))
      try simp only [Act.put, List.setIfInBounds_toArray, List.set_cons_zero, List.set_cons_succ]
      refine wpAnyH_ready (rs := [3, 8, 9]) (by kernel_rfl) (by simp) ?_
      refine AllReadyH.cons (o := { dst := some 285, op := Op.call { callee := Callee.value (Operand.func 26), args := #[Operand.tmp 282, Operand.tmp 283, Operand.const (Value.bool false), Operand.tmp 284], argTypes := #[24, 27, 4, 3] }, type := 45, pos := "outright.go:175", after := #[{ on := 0, ground := Ground.data }, { on := 1, ground := Ground.data }, { on := 2, ground := Ground.data }], guard := none }) rfl (fun K hK => ?_) ?_
      · go_simp
        refine (sum_any _ _ false _ _ _ _ _ _ _ (Kd.C_below HR.out HB.out) hc HP.out (Kd.R_reads' HS.out).2.2 (Kd.R_reads' HS.out).2.1 HWS.out).mono ?_
        rintro e Wc1 ⟨rfl, hb⟩
        have q0 := (hb.cell (World.block_lt_of_cell? _ _ s0)).trans s0
        have q1 := (hb.cell (World.block_lt_of_cell? _ _ s1)).trans s1
        have N1 := Aside0.mk (Kd.R_below HS.out hb)
        have N2 := Aside0.mk (bl_next HB.out hb)
        refine hK.out _ _ ⟨q0, q1⟩ (fun hHeld => ?_)
        clear hb s0 s1 HS HB
        have s0 := q0
        have s1 := q1
        have HS := N1
        have HB := N2
        clear q0 q1 N1 N2
        clear hK K
        try simp only [Act.put, List.setIfInBounds_toArray, List.set_cons_zero, List.set_cons_succ]
        refine wpAnyH_ready (rs := [7, 8, 9]) (by kernel_rfl) (by simp) ?_
        refine AllReadyH.cons (o := { dst := some 289, op := Op.call { callee := Callee.value (Operand.func 26), args := #[Operand.tmp 286, Operand.tmp 287, Operand.const (Value.bool true), Operand.tmp 288], argTypes := #[24, 27, 4, 3] }, type := 45, pos := "outright.go:175", after := #[{ on := 4, ground := Ground.data }, { on := 5, ground := Ground.data }, { on := 6, ground := Ground.data }, { on := 3, ground := Ground.chain }], guard := none }) rfl (fun K hK => ?_) ?_
        · go_simp
          refine (sum_any _ _ true _ _ _ _ _ _ _ (Kd.C_below HR.out HB.out) hc HP.out (Kd.R_reads' HS.out).2.2 (Kd.R_reads' HS.out).2.1 HWS.out).mono ?_
          rintro e Wc2 ⟨rfl, hb⟩
          have q0 := (hb.cell (World.block_lt_of_cell? _ _ s0)).trans s0
          have q1 := (hb.cell (World.block_lt_of_cell? _ _ s1)).trans s1
          have N1 := Aside0.mk (Kd.R_below HS.out hb)
          have N2 := Aside0.mk (bl_next HB.out hb)
          refine hK.out _ _ ⟨q0, q1⟩ (fun hHeld => ?_)
          clear hb s0 s1 HS HB
          have s0 := q0
          have s1 := q1
          have HS := N1
          have HB := N2
          clear q0 q1 N1 N2
          clear hK K
          try simp only [Act.put, List.setIfInBounds_toArray, List.set_cons_zero, List.set_cons_succ]
          refine wpAnyH_ready (rs := [8, 9]) (by kernel_rfl) (by simp) ?_
          refine AllReadyH.cons (o := { dst := some 20, op := Op.alloc 45, type := 0, pos := "outright.go:175", after := #[], guard := none }) rfl (fun K hK => ?_) ?_
          · go_simp
            have NX := Aside0.mk (blk_new Wc2 (.cells #[.int .i64 0, .int .i64 0] 45))
            have glt20 := World.block_lt_of_cell? _ _ s0
            have q0 := cell_alloc_o (.cells #[.int .i64 0, .int .i64 0] 45) s0
            have q1 := cell_alloc_o (.cells #[.int .i64 0, .int .i64 0] 45) s1
            have N1 := Aside0.mk (Kd.R_alloc HS.out (.cells #[.int .i64 0, .int .i64 0] 45))
            have N2 := Aside0.mk (below_alloc HB.out (.cells #[.int .i64 0, .int .i64 0] 45))
            refine hK.out _ _ ⟨q0, q1⟩ (fun hHeld => ?_)
            clear s0 s1 HB HS
            have s0 := q0
            have s1 := q1
            have HS := N1
            have HB := N2
            have B20 := NX
            clear q0 q1 N1 N2 NX
            generalize Wc2.alloc (.cells #[.int .i64 0, .int .i64 0] 45) = Wa3 at *
            generalize Wc2.heap.size = g20 at *
            clear hK K
            try simp only [Act.put, List.setIfInBounds_toArray, List.set_cons_zero, List.set_cons_succ]
            refine wpAnyH_ready (rs := [9]) (by kernel_rfl) (by simp) ?_
            refine AllReadyH.cons (o := { dst := some 21, op := Op.alloc 45, type := 0, pos := "outright.go:175", after := #[], guard := none }) rfl (fun K hK => ?_) ?_
            · go_simp
              have NX := Aside0.mk (blk_new Wa3 (.cells #[.int .i64 0, .int .i64 0] 45))
              have glt21 := World.block_lt_of_cell? _ _ s0
              have gd2021 := blk_lt B20.out
              have q0 := cell_alloc_o (.cells #[.int .i64 0, .int .i64 0] 45) s0
              have q1 := cell_alloc_o (.cells #[.int .i64 0, .int .i64 0] 45) s1
              have N1 := Aside0.mk (Kd.R_alloc HS.out (.cells #[.int .i64 0, .int .i64 0] 45))
              have N2 := Aside0.mk (below_alloc HB.out (.cells #[.int .i64 0, .int .i64 0] 45))
              have NB20 := Aside0.mk (blk_alloc B20.out (.cells #[.int .i64 0, .int .i64 0] 45))
              refine hK.out _ _ ⟨q0, q1⟩ (fun hHeld => ?_)
              clear s0 s1 HB HS B20
              have s0 := q0
              have s1 := q1
              have HS := N1
              have HB := N2
              have B20 := NB20
              have B21 := NX
              clear q0 q1 N1 N2 NX NB20
              generalize Wa3.alloc (.cells #[.int .i64 0, .int .i64 0] 45) = Wa4 at *
              generalize Wa3.heap.size = g21 at *
              clear hK K
              try simp only [Act.put, List.setIfInBounds_toArray, List.set_cons_zero, List.set_cons_succ]
              refine wpAnyH_ready (rs := [10]) (by kernel_rfl) (by simp) ?_
              refine AllReadyH.cons (o := { dst := none, op := Op.store 45 (Operand.tmp 20) (Operand.tmp 285), type := 0, pos := "outright.go:175", after := #[{ on := 8, ground := Ground.data }, { on := 3, ground := Ground.data }, { on := 7, ground := Ground.chain }, { on := 0, ground := Ground.phase }, { on := 1, ground := Ground.phase }, { on := 2, ground := Ground.phase }, { on := 3, ground := Ground.phase }, { on := 4, ground := Ground.textOnly Departure.lateStores }, { on := 5, ground := Ground.textOnly Departure.lateStores }, { on := 6, ground := Ground.textOnly Departure.lateStores }, { on := 7, ground := Ground.textOnly Departure.lateStoresUnsure }, { on := 8, ground := Ground.phase }, { on := 9, ground := Ground.phase }], guard := none }) rfl (fun K hK => ?_) ?_
              · have z0 := cell_two B20.out 0 rfl
                have z1 := cell_two B20.out 1 rfl
                have zf0 := blk_frozen B20.out 0
                have zf1 := blk_frozen B20.out 1
                go_simp
                have hne : g20 ≠ w.heap.size := Nat.ne_of_gt glt20
                have q0 := (World.cell?_setCell_far (Wa4.setCell ⟨g20, 0, none⟩ (.int .i64 (totalW (listS s) flow false false l))) ⟨g20, 1, none⟩ ⟨w.heap.size, 0, none⟩ (.int .i64 (totalW (listS s) flow false true l)) hne).trans ((World.cell?_setCell_far Wa4 ⟨g20, 0, none⟩ ⟨w.heap.size, 0, none⟩ (.int .i64 (totalW (listS s) flow false false l)) hne).trans s0)
                have q1 := (World.cell?_setCell_far (Wa4.setCell ⟨g20, 0, none⟩ (.int .i64 (totalW (listS s) flow false false l))) ⟨g20, 1, none⟩ ⟨w.heap.size, 1, none⟩ (.int .i64 (totalW (listS s) flow false true l)) hne).trans ((World.cell?_setCell_far Wa4 ⟨g20, 0, none⟩ ⟨w.heap.size, 1, none⟩ (.int .i64 (totalW (listS s) flow false false l)) hne).trans s1)
                have N2 := Aside0.mk (below_set (j := 1) (v := .int .i64 (totalW (listS s) flow false true l)) (below_set (j := 0) (v := .int .i64 (totalW (listS s) flow false false l)) HB.out (Nat.le_of_lt glt20)) (Nat.le_of_lt glt20))
                have NX := Aside0.mk (blk_put (blk_put B20.out 0 (.int .i64 (totalW (listS s) flow false false l)) rfl) 1 (.int .i64 (totalW (listS s) flow false true l)) rfl)
                have NB21 := Aside0.mk (blk_set_ne (blk_set_ne B21.out (Nat.ne_of_lt gd2021) 0 (.int .i64 (totalW (listS s) flow false false l))) (Nat.ne_of_lt gd2021) 1 (.int .i64 (totalW (listS s) flow false true l)))
                refine hK.out _ _ ⟨q0, q1⟩ (fun hHeld => ?_)
                clear s0 s1 HB z0 z1 zf0 zf1 hne HS B20 B21
                have s0 := q0
                have s1 := q1
                have HB := N2
                have B21 := NB21
                have B20 := NX
                clear q0 q1 N2 NX NB21
                generalize (Wa4.setCell ⟨g20, 0, none⟩ (.int .i64 (totalW (listS s) flow false false l))).setCell ⟨g20, 1, none⟩ (.int .i64 (totalW (listS s) flow false true l)) = Ws5 at *
                clear hK K
                try simp only [Act.put, List.setIfInBounds_toArray, List.set_cons_zero, List.set_cons_succ]
                refine wpAnyH_ready (rs := [11]) (by kernel_rfl) (by simp) ?_
                refine AllReadyH.cons (o := { dst := none, op := Op.store 45 (Operand.tmp 21) (Operand.tmp 289), type := 0, pos := "outright.go:175", after := #[{ on := 9, ground := Ground.data }, { on := 7, ground := Ground.data }, { on := 10, ground := Ground.chain }, { on := 0, ground := Ground.phase }, { on := 1, ground := Ground.phase }, { on := 2, ground := Ground.phase }, { on := 3, ground := Ground.phase }, { on := 4, ground := Ground.phase }, { on := 5, ground := Ground.phase }, { on := 6, ground := Ground.phase }, { on := 7, ground := Ground.phase }, { on := 8, ground := Ground.phase }, { on := 9, ground := Ground.phase }, { on := 10, ground := Ground.phase }], guard := none }) rfl (fun K hK => ?_) ?_
                · have z0 := cell_two B21.out 0 rfl
                  have z1 := cell_two B21.out 1 rfl
                  have zf0 := blk_frozen B21.out 0
                  have zf1 := blk_frozen B21.out 1
                  go_simp
                  have hne : g21 ≠ w.heap.size := Nat.ne_of_gt glt21
                  have q0 := (World.cell?_setCell_far (Ws5.setCell ⟨g21, 0, none⟩ (.int .i64 (totalW (listS s) flow true false l))) ⟨g21, 1, none⟩ ⟨w.heap.size, 0, none⟩ (.int .i64 (totalW (listS s) flow true true l)) hne).trans ((World.cell?_setCell_far Ws5 ⟨g21, 0, none⟩ ⟨w.heap.size, 0, none⟩ (.int .i64 (totalW (listS s) flow true false l)) hne).trans s0)
                  have q1 := (World.cell?_setCell_far (Ws5.setCell ⟨g21, 0, none⟩ (.int .i64 (totalW (listS s) flow true false l))) ⟨g21, 1, none⟩ ⟨w.heap.size, 1, none⟩ (.int .i64 (totalW (listS s) flow true true l)) hne).trans ((World.cell?_setCell_far Ws5 ⟨g21, 0, none⟩ ⟨w.heap.size, 1, none⟩ (.int .i64 (totalW (listS s) flow true false l)) hne).trans s1)
                  have N2 := Aside0.mk (below_set (j := 1) (v := .int .i64 (totalW (listS s) flow true true l)) (below_set (j := 0) (v := .int .i64 (totalW (listS s) flow true false l)) HB.out (Nat.le_of_lt glt21)) (Nat.le_of_lt glt21))
                  have NX := Aside0.mk (blk_put (blk_put B21.out 0 (.int .i64 (totalW (listS s) flow true false l)) rfl) 1 (.int .i64 (totalW (listS s) flow true true l)) rfl)
                  have NB20 := Aside0.mk (blk_set_ne (blk_set_ne B20.out (Nat.ne_of_gt gd2021) 0 (.int .i64 (totalW (listS s) flow true false l))) (Nat.ne_of_gt gd2021) 1 (.int .i64 (totalW (listS s) flow true true l)))
                  refine hK.out _ _ ⟨q0, q1⟩ (fun hHeld => ?_)
                  clear s0 s1 HB z0 z1 zf0 zf1 hne B20 B21
                  have s0 := q0
                  have s1 := q1
                  have HB := N2
                  have B20 := NB20
                  have B21 := NX
                  clear q0 q1 N2 NX NB20
                  generalize (Ws5.setCell ⟨g21, 0, none⟩ (.int .i64 (totalW (listS s) flow true false l))).setCell ⟨g21, 1, none⟩ (.int .i64 (totalW (listS s) flow true true l)) = Ws6 at *
                  clear hK K
                  try simp only [Act.put, List.setIfInBounds_toArray, List.set_cons_zero, List.set_cons_succ]
                  refine wpAnyH_done (by kernel_rfl) ?_ _
                  have z0 := cell_two B20.out 0 rfl
                  have z1 := cell_two B20.out 1 rfl
                  have z2 := cell_two B21.out 0 rfl
                  have z3 := cell_two B21.out 1 rfl
                  go_wp2_with (go_at_call 10; refine (awake_any _).mono ?_; rintro e Wz ⟨rfl, hb⟩; have HBz := Aside0.mk (bl_next HB.out hb); clear hb)
                  go_ret
                  exact ⟨rfl, HBz.out⟩
                exact AllReadyH.nil
              exact AllReadyH.nil
            exact AllReadyH.nil
          refine AllReadyH.cons (o := { dst := some 21, op := Op.alloc 45, type := 0, pos := "outright.go:175", after := #[], guard := none }) rfl (fun K hK => ?_) ?_
          · go_simp
            have NX := Aside0.mk (blk_new Wc2 (.cells #[.int .i64 0, .int .i64 0] 45))
            have glt21 := World.block_lt_of_cell? _ _ s0
            have q0 := cell_alloc_o (.cells #[.int .i64 0, .int .i64 0] 45) s0
            have q1 := cell_alloc_o (.cells #[.int .i64 0, .int .i64 0] 45) s1
            have N1 := Aside0.mk (Kd.R_alloc HS.out (.cells #[.int .i64 0, .int .i64 0] 45))
            have N2 := Aside0.mk (below_alloc HB.out (.cells #[.int .i64 0, .int .i64 0] 45))
            refine hK.out _ _ ⟨q0, q1⟩ (fun hHeld => ?_)
            clear s0 s1 HB HS
            have s0 := q0
            have s1 := q1
            have HS := N1
            have HB := N2
            have B21 := NX
            clear q0 q1 N1 N2 NX
            generalize Wc2.alloc (.cells #[.int .i64 0, .int .i64 0] 45) = Wa7 at *
            generalize Wc2.heap.size = g21 at *
            clear hK K
            try simp only [Act.put, List.setIfInBounds_toArray, List.set_cons_zero, List.set_cons_succ]
            refine wpAnyH_ready (rs := [8]) (by kernel_rfl) (by simp) ?_
            refine AllReadyH.cons (o := { dst := some 20, op := Op.alloc 45, type := 0, pos := "outright.go:175", after := #[], guard := none }) rfl (fun K hK => ?_) ?_
            · go_simp
              have NX := Aside0.mk (blk_new Wa7 (.cells #[.int .i64 0, .int .i64 0] 45))
              have glt20 := World.block_lt_of_cell? _ _ s0
              have gd2120 := blk_lt B21.out
              have q0 := cell_alloc_o (.cells #[.int .i64 0, .int .i64 0] 45) s0
              have q1 := cell_alloc_o (.cells #[.int .i64 0, .int .i64 0] 45) s1
              have N1 := Aside0.mk (Kd.R_alloc HS.out (.cells #[.int .i64 0, .int .i64 0] 45))
              have N2 := Aside0.mk (below_alloc HB.out (.cells #[.int .i64 0, .int .i64 0] 45))
              have NB21 := Aside0.mk (blk_alloc B21.out (.cells #[.int .i64 0, .int .i64 0] 45))
              refine hK.out _ _ ⟨q0, q1⟩ (fun hHeld => ?_)
              clear s0 s1 HB HS B21
              have s0 := q0
              have s1 := q1
              have HS := N1
              have HB := N2
              have B21 := NB21
              have B20 := NX
              clear q0 q1 N1 N2 NX NB21
              generalize Wa7.alloc (.cells #[.int .i64 0, .int .i64 0] 45) = Wa8 at *
              generalize Wa7.heap.size = g20 at *
              clear hK K
              try simp only [Act.put, List.setIfInBounds_toArray, List.set_cons_zero, List.set_cons_succ]
              refine wpAnyH_ready (rs := [10]) (by kernel_rfl) (by simp) ?_
              refine AllReadyH.cons (o := { dst := none, op := Op.store 45 (Operand.tmp 20) (Operand.tmp 285), type := 0, pos := "outright.go:175", after := #[{ on := 8, ground := Ground.data }, { on := 3, ground := Ground.data }, { on := 7, ground := Ground.chain }, { on := 0, ground := Ground.phase }, { on := 1, ground := Ground.phase }, { on := 2, ground := Ground.phase }, { on := 3, ground := Ground.phase }, { on := 4, ground := Ground.textOnly Departure.lateStores }, { on := 5, ground := Ground.textOnly Departure.lateStores }, { on := 6, ground := Ground.textOnly Departure.lateStores }, { on := 7, ground := Ground.textOnly Departure.lateStoresUnsure }, { on := 8, ground := Ground.phase }, { on := 9, ground := Ground.phase }], guard := none }) rfl (fun K hK => ?_) ?_
              · have z0 := cell_two B20.out 0 rfl
                have z1 := cell_two B20.out 1 rfl
                have zf0 := blk_frozen B20.out 0
                have zf1 := blk_frozen B20.out 1
                go_simp
                have hne : g20 ≠ w.heap.size := Nat.ne_of_gt glt20
                have q0 := (World.cell?_setCell_far (Wa8.setCell ⟨g20, 0, none⟩ (.int .i64 (totalW (listS s) flow false false l))) ⟨g20, 1, none⟩ ⟨w.heap.size, 0, none⟩ (.int .i64 (totalW (listS s) flow false true l)) hne).trans ((World.cell?_setCell_far Wa8 ⟨g20, 0, none⟩ ⟨w.heap.size, 0, none⟩ (.int .i64 (totalW (listS s) flow false false l)) hne).trans s0)
                have q1 := (World.cell?_setCell_far (Wa8.setCell ⟨g20, 0, none⟩ (.int .i64 (totalW (listS s) flow false false l))) ⟨g20, 1, none⟩ ⟨w.heap.size, 1, none⟩ (.int .i64 (totalW (listS s) flow false true l)) hne).trans ((World.cell?_setCell_far Wa8 ⟨g20, 0, none⟩ ⟨w.heap.size, 1, none⟩ (.int .i64 (totalW (listS s) flow false false l)) hne).trans s1)
                have N2 := Aside0.mk (below_set (j := 1) (v := .int .i64 (totalW (listS s) flow false true l)) (below_set (j := 0) (v := .int .i64 (totalW (listS s) flow false false l)) HB.out (Nat.le_of_lt glt20)) (Nat.le_of_lt glt20))
                have NX := Aside0.mk (blk_put (blk_put B20.out 0 (.int .i64 (totalW (listS s) flow false false l)) rfl) 1 (.int .i64 (totalW (listS s) flow false true l)) rfl)
                have NB21 := Aside0.mk (blk_set_ne (blk_set_ne B21.out (Nat.ne_of_gt gd2120) 0 (.int .i64 (totalW (listS s) flow false false l))) (Nat.ne_of_gt gd2120) 1 (.int .i64 (totalW (listS s) flow false true l)))
                refine hK.out _ _ ⟨q0, q1⟩ (fun hHeld => ?_)
                clear s0 s1 HB z0 z1 zf0 zf1 hne HS B21 B20
                have s0 := q0
                have s1 := q1
                have HB := N2
                have B21 := NB21
                have B20 := NX
                clear q0 q1 N2 NX NB21
                generalize (Wa8.setCell ⟨g20, 0, none⟩ (.int .i64 (totalW (listS s) flow false false l))).setCell ⟨g20, 1, none⟩ (.int .i64 (totalW (listS s) flow false true l)) = Ws9 at *
                clear hK K
                try simp only [Act.put, List.setIfInBounds_toArray, List.set_cons_zero, List.set_cons_succ]
                refine wpAnyH_ready (rs := [11]) (by kernel_rfl) (by simp) ?_
                refine AllReadyH.cons (o := { dst := none, op := Op.store 45 (Operand.tmp 21) (Operand.tmp 289), type := 0, pos := "outright.go:175", after := #[{ on := 9, ground := Ground.data }, { on := 7, ground := Ground.data }, { on := 10, ground := Ground.chain }, { on := 0, ground := Ground.phase }, { on := 1, ground := Ground.phase }, { on := 2, ground := Ground.phase }, { on := 3, ground := Ground.phase }, { on := 4, ground := Ground.phase }, { on := 5, ground := Ground.phase }, { on := 6, ground := Ground.phase }, { on := 7, ground := Ground.phase }, { on := 8, ground := Ground.phase }, { on := 9, ground := Ground.phase }, { on := 10, ground := Ground.phase }], guard := none }) rfl (fun K hK => ?_) ?_
                · have z0 := cell_two B21.out 0 rfl
                  have z1 := cell_two B21.out 1 rfl
                  have zf0 := blk_frozen B21.out 0
                  have zf1 := blk_frozen B21.out 1
                  go_simp
                  have hne : g21 ≠ w.heap.size := Nat.ne_of_gt glt21
                  have q0 := (World.cell?_setCell_far (Ws9.setCell ⟨g21, 0, none⟩ (.int .i64 (totalW (listS s) flow true false l))) ⟨g21, 1, none⟩ ⟨w.heap.size, 0, none⟩ (.int .i64 (totalW (listS s) flow true true l)) hne).trans ((World.cell?_setCell_far Ws9 ⟨g21, 0, none⟩ ⟨w.heap.size, 0, none⟩ (.int .i64 (totalW (listS s) flow true false l)) hne).trans s0)
                  have q1 := (World.cell?_setCell_far (Ws9.setCell ⟨g21, 0, none⟩ (.int .i64 (totalW (listS s) flow true false l))) ⟨g21, 1, none⟩ ⟨w.heap.size, 1, none⟩ (.int .i64 (totalW (listS s) flow true true l)) hne).trans ((World.cell?_setCell_far Ws9 ⟨g21, 0, none⟩ ⟨w.heap.size, 1, none⟩ (.int .i64 (totalW (listS s) flow true false l)) hne).trans s1)
                  have N2 := Aside0.mk (below_set (j := 1) (v := .int .i64 (totalW (listS s) flow true true l)) (below_set (j := 0) (v := .int .i64 (totalW (listS s) flow true false l)) HB.out (Nat.le_of_lt glt21)) (Nat.le_of_lt glt21))
                  have NX := Aside0.mk (blk_put (blk_put B21.out 0 (.int .i64 (totalW (listS s) flow true false l)) rfl) 1 (.int .i64 (totalW (listS s) flow true true l)) rfl)
                  have NB20 := Aside0.mk (blk_set_ne (blk_set_ne B20.out (Nat.ne_of_lt gd2120) 0 (.int .i64 (totalW (listS s) flow true false l))) (Nat.ne_of_lt gd2120) 1 (.int .i64 (totalW (listS s) flow true true l)))
                  refine hK.out _ _ ⟨q0, q1⟩ (fun hHeld => ?_)
                  clear s0 s1 HB z0 z1 zf0 zf1 hne B21 B20
                  have s0 := q0
                  have s1 := q1
                  have HB := N2
                  have B20 := NB20
                  have B21 := NX
                  clear q0 q1 N2 NX NB20
                  generalize (Ws9.setCell ⟨g21, 0, none⟩ (.int .i64 (totalW (listS s) flow true false l))).setCell ⟨g21, 1, none⟩ (.int .i64 (totalW (listS s) flow true true l)) = Ws10 at *
                  clear hK K
                  try simp only [Act.put, List.setIfInBounds_toArray, List.set_cons_zero, List.set_cons_succ]
                  refine wpAnyH_done (by kernel_rfl) ?_ _
                  have z0 := cell_two B20.out 0 rfl
                  have z1 := cell_two B20.out 1 rfl
                  have z2 := cell_two B21.out 0 rfl
                  have z3 := cell_two B21.out 1 rfl
                  go_wp2_with (go_at_call 10; refine (awake_any _).mono ?_; rintro e Wz ⟨rfl, hb⟩; have HBz := Aside0.mk (bl_next HB.out hb); clear hb)
                  go_ret
                  exact ⟨rfl, HBz.out⟩
                exact AllReadyH.nil
              exact AllReadyH.nil
            exact AllReadyH.nil
          exact AllReadyH.nil
        refine AllReadyH.cons (o := { dst := some 20, op := Op.alloc 45, type := 0, pos := "outright.go:175", after := #[], guard := none }) rfl (fun K hK => ?_) ?_
        · go_simp
          have NX := Aside0.mk (blk_new Wc1 (.cells #[.int .i64 0, .int .i64 0] 45))
          have glt20 := World.block_lt_of_cell? _ _ s0
          have q0 := cell_alloc_o (.cells #[.int .i64 0, .int .i64 0] 45) s0
          have q1 := cell_alloc_o (.cells #[.int .i64 0, .int .i64 0] 45) s1
          have N1 := Aside0.mk (Kd.R_alloc HS.out (.cells #[.int .i64 0, .int .i64 0] 45))
          have N2 := Aside0.mk (below_alloc HB.out (.cells #[.int .i64 0, .int .i64 0] 45))
          refine hK.out _ _ ⟨q0, q1⟩ (fun hHeld => ?_)
          clear s0 s1 HB HS
          have s0 := q0
          have s1 := q1
          have HS := N1
          have HB := N2
          have B20 := NX
          clear q0 q1 N1 N2 NX
          generalize Wc1.alloc (.cells #[.int .i64 0, .int .i64 0] 45) = Wa11 at *
          generalize Wc1.heap.size = g20 at *
          clear hK K
          try simp only [Act.put, List.setIfInBounds_toArray, List.set_cons_zero, List.set_cons_succ]
          refine wpAnyH_ready (rs := [7, 9]) (by kernel_rfl) (by simp) ?_
          refine AllReadyH.cons (o := { dst := some 289, op := Op.call { callee := Callee.value (Operand.func 26), args := #[Operand.tmp 286, Operand.tmp 287, Operand.const (Value.bool true), Operand.tmp 288], argTypes := #[24, 27, 4, 3] }, type := 45, pos := "outright.go:175", after := #[{ on := 4, ground := Ground.data }, { on := 5, ground := Ground.data }, { on := 6, ground := Ground.data }, { on := 3, ground := Ground.chain }], guard := none }) rfl (fun K hK => ?_) ?_
          · go_simp
            refine (sum_any _ _ true _ _ _ _ _ _ _ (Kd.C_below HR.out HB.out) hc HP.out (Kd.R_reads' HS.out).2.2 (Kd.R_reads' HS.out).2.1 HWS.out).mono ?_
            rintro e Wc12 ⟨rfl, hb⟩
            have q0 := (hb.cell (World.block_lt_of_cell? _ _ s0)).trans s0
            have q1 := (hb.cell (World.block_lt_of_cell? _ _ s1)).trans s1
            have N1 := Aside0.mk (Kd.R_below HS.out hb)
            have N2 := Aside0.mk (bl_next HB.out hb)
            have NB20 := Aside0.mk (blk_below B20.out hb)
            refine hK.out _ _ ⟨q0, q1⟩ (fun hHeld => ?_)
            clear hb s0 s1 HS HB B20
            have s0 := q0
            have s1 := q1
            have HS := N1
            have HB := N2
            have B20 := NB20
            clear q0 q1 N1 N2 NB20
            clear hK K
            try simp only [Act.put, List.setIfInBounds_toArray, List.set_cons_zero, List.set_cons_succ]
            refine wpAnyH_ready (rs := [9]) (by kernel_rfl) (by simp) ?_
            refine AllReadyH.cons (o := { dst := some 21, op := Op.alloc 45, type := 0, pos := "outright.go:175", after := #[], guard := none }) rfl (fun K hK => ?_) ?_
            · go_simp
              have NX := Aside0.mk (blk_new Wc12 (.cells #[.int .i64 0, .int .i64 0] 45))
              have glt21 := World.block_lt_of_cell? _ _ s0
              have gd2021 := blk_lt B20.out
              have q0 := cell_alloc_o (.cells #[.int .i64 0, .int .i64 0] 45) s0
              have q1 := cell_alloc_o (.cells #[.int .i64 0, .int .i64 0] 45) s1
              have N1 := Aside0.mk (Kd.R_alloc HS.out (.cells #[.int .i64 0, .int .i64 0] 45))
              have N2 := Aside0.mk (below_alloc HB.out (.cells #[.int .i64 0, .int .i64 0] 45))
              have NB20 := Aside0.mk (blk_alloc B20.out (.cells #[.int .i64 0, .int .i64 0] 45))
              refine hK.out _ _ ⟨q0, q1⟩ (fun hHeld => ?_)
              clear s0 s1 HB HS B20
              have s0 := q0
              have s1 := q1
              have HS := N1
              have HB := N2
              have B20 := NB20
              have B21 := NX
              clear q0 q1 N1 N2 NX NB20
              generalize Wc12.alloc (.cells #[.int .i64 0, .int .i64 0] 45) = Wa13 at *
              generalize Wc12.heap.size = g21 at *
              clear hK K
              try simp only [Act.put, List.setIfInBounds_toArray, List.set_cons_zero, List.set_cons_succ]
              refine wpAnyH_ready (rs := [10]) (by kernel_rfl) (by simp) ?_
              refine AllReadyH.cons (o := { dst := none, op := Op.store 45 (Operand.tmp 20) (Operand.tmp 285), type := 0, pos := "outright.go:175", after := #[{ on := 8, ground := Ground.data }, { on := 3, ground := Ground.data }, { on := 7, ground := Ground.chain }, { on := 0, ground := Ground.phase }, { on := 1, ground := Ground.phase }, { on := 2, ground := Ground.phase }, { on := 3, ground := Ground.phase }, { on := 4, ground := Ground.textOnly Departure.lateStores }, { on := 5, ground := Ground.textOnly Departure.lateStores }, { on := 6, ground := Ground.textOnly Departure.lateStores }, { on := 7, ground := Ground.textOnly Departure.lateStoresUnsure }, { on := 8, ground := Ground.phase }, { on := 9, ground := Ground.phase }], guard := none }) rfl (fun K hK => ?_) ?_
              · have z0 := cell_two B20.out 0 rfl
                have z1 := cell_two B20.out 1 rfl
                have zf0 := blk_frozen B20.out 0
                have zf1 := blk_frozen B20.out 1
                go_simp
                have hne : g20 ≠ w.heap.size := Nat.ne_of_gt glt20
                have q0 := (World.cell?_setCell_far (Wa13.setCell ⟨g20, 0, none⟩ (.int .i64 (totalW (listS s) flow false false l))) ⟨g20, 1, none⟩ ⟨w.heap.size, 0, none⟩ (.int .i64 (totalW (listS s) flow false true l)) hne).trans ((World.cell?_setCell_far Wa13 ⟨g20, 0, none⟩ ⟨w.heap.size, 0, none⟩ (.int .i64 (totalW (listS s) flow false false l)) hne).trans s0)
                have q1 := (World.cell?_setCell_far (Wa13.setCell ⟨g20, 0, none⟩ (.int .i64 (totalW (listS s) flow false false l))) ⟨g20, 1, none⟩ ⟨w.heap.size, 1, none⟩ (.int .i64 (totalW (listS s) flow false true l)) hne).trans ((World.cell?_setCell_far Wa13 ⟨g20, 0, none⟩ ⟨w.heap.size, 1, none⟩ (.int .i64 (totalW (listS s) flow false false l)) hne).trans s1)
                have N2 := Aside0.mk (below_set (j := 1) (v := .int .i64 (totalW (listS s) flow false true l)) (below_set (j := 0) (v := .int .i64 (totalW (listS s) flow false false l)) HB.out (Nat.le_of_lt glt20)) (Nat.le_of_lt glt20))
                have NX := Aside0.mk (blk_put (blk_put B20.out 0 (.int .i64 (totalW (listS s) flow false false l)) rfl) 1 (.int .i64 (totalW (listS s) flow false true l)) rfl)
                have NB21 := Aside0.mk (blk_set_ne (blk_set_ne B21.out (Nat.ne_of_lt gd2021) 0 (.int .i64 (totalW (listS s) flow false false l))) (Nat.ne_of_lt gd2021) 1 (.int .i64 (totalW (listS s) flow false true l)))
                refine hK.out _ _ ⟨q0, q1⟩ (fun hHeld => ?_)
                clear s0 s1 HB z0 z1 zf0 zf1 hne HS B20 B21
                have s0 := q0
                have s1 := q1
                have HB := N2
                have B21 := NB21
                have B20 := NX
                clear q0 q1 N2 NX NB21
                generalize (Wa13.setCell ⟨g20, 0, none⟩ (.int .i64 (totalW (listS s) flow false false l))).setCell ⟨g20, 1, none⟩ (.int .i64 (totalW (listS s) flow false true l)) = Ws14 at *
                clear hK K
                try simp only [Act.put, List.setIfInBounds_toArray, List.set_cons_zero, List.set_cons_succ]
                refine wpAnyH_ready (rs := [11]) (by kernel_rfl) (by simp) ?_
                refine AllReadyH.cons (o := { dst := none, op := Op.store 45 (Operand.tmp 21) (Operand.tmp 289), type := 0, pos := "outright.go:175", after := #[{ on := 9, ground := Ground.data }, { on := 7, ground := Ground.data }, { on := 10, ground := Ground.chain }, { on := 0, ground := Ground.phase }, { on := 1, ground := Ground.phase }, { on := 2, ground := Ground.phase }, { on := 3, ground := Ground.phase }, { on := 4, ground := Ground.phase }, { on := 5, ground := Ground.phase }, { on := 6, ground := Ground.phase }, { on := 7, ground := Ground.phase }, { on := 8, ground := Ground.phase }, { on := 9, ground := Ground.phase }, { on := 10, ground := Ground.phase }], guard := none }) rfl (fun K hK => ?_) ?_
                · have z0 := cell_two B21.out 0 rfl
                  have z1 := cell_two B21.out 1 rfl
                  have zf0 := blk_frozen B21.out 0
                  have zf1 := blk_frozen B21.out 1
                  go_simp
                  have hne : g21 ≠ w.heap.size := Nat.ne_of_gt glt21
                  have q0 := (World.cell?_setCell_far (Ws14.setCell ⟨g21, 0, none⟩ (.int .i64 (totalW (listS s) flow true false l))) ⟨g21, 1, none⟩ ⟨w.heap.size, 0, none⟩ (.int .i64 (totalW (listS s) flow true true l)) hne).trans ((World.cell?_setCell_far Ws14 ⟨g21, 0, none⟩ ⟨w.heap.size, 0, none⟩ (.int .i64 (totalW (listS s) flow true false l)) hne).trans s0)
                  have q1 := (World.cell?_setCell_far (Ws14.setCell ⟨g21, 0, none⟩ (.int .i64 (totalW (listS s) flow true false l))) ⟨g21, 1, none⟩ ⟨w.heap.size, 1, none⟩ (.int .i64 (totalW (listS s) flow true true l)) hne).trans ((World.cell?_setCell_far Ws14 ⟨g21, 0, none⟩ ⟨w.heap.size, 1, none⟩ (.int .i64 (totalW (listS s) flow true false l)) hne).trans s1)
                  have N2 := Aside0.mk (below_set (j := 1) (v := .int .i64 (totalW (listS s) flow true true l)) (below_set (j := 0) (v := .int .i64 (totalW (listS s) flow true false l)) HB.out (Nat.le_of_lt glt21)) (Nat.le_of_lt glt21))
                  have NX := Aside0.mk (blk_put (blk_put B21.out 0 (.int .i64 (totalW (listS s) flow true false l)) rfl) 1 (.int .i64 (totalW (listS s) flow true true l)) rfl)
                  have NB20 := Aside0.mk (blk_set_ne (blk_set_ne B20.out (Nat.ne_of_gt gd2021) 0 (.int .i64 (totalW (listS s) flow true false l))) (Nat.ne_of_gt gd2021) 1 (.int .i64 (totalW (listS s) flow true true l)))
                  refine hK.out _ _ ⟨q0, q1⟩ (fun hHeld => ?_)
                  clear s0 s1 HB z0 z1 zf0 zf1 hne B20 B21
                  have s0 := q0
                  have s1 := q1
                  have HB := N2
                  have B20 := NB20
                  have B21 := NX
                  clear q0 q1 N2 NX NB20
                  generalize (Ws14.setCell ⟨g21, 0, none⟩ (.int .i64 (totalW (listS s) flow true false l))).setCell ⟨g21, 1, none⟩ (.int .i64 (totalW (listS s) flow true true l)) = Ws15 at *
                  clear hK K
                  try simp only [Act.put, List.setIfInBounds_toArray, List.set_cons_zero, List.set_cons_succ]
                  refine wpAnyH_done (by kernel_rfl) ?_ _
                  have z0 := cell_two B20.out 0 rfl
                  have z1 := cell_two B20.out 1 rfl
                  have z2 := cell_two B21.out 0 rfl
                  have z3 := cell_two B21.out 1 rfl
                  go_wp2_with (go_at_call 10; refine (awake_any _).mono ?_; rintro e Wz ⟨rfl, hb⟩; have HBz := Aside0.mk (bl_next HB.out hb); clear hb)
                  go_ret
                  exact ⟨rfl, HBz.out⟩
                exact AllReadyH.nil
              exact AllReadyH.nil
            exact AllReadyH.nil
          refine AllReadyH.cons (o := { dst := some 21, op := Op.alloc 45, type := 0, pos := "outright.go:175", after := #[], guard := none }) rfl (fun K hK => ?_) ?_
          · go_simp
            have NX := Aside0.mk (blk_new Wa11 (.cells #[.int .i64 0, .int .i64 0] 45))
            have glt21 := World.block_lt_of_cell? _ _ s0
            have gd2021 := blk_lt B20.out
            have q0 := cell_alloc_o (.cells #[.int .i64 0, .int .i64 0] 45) s0
            have q1 := cell_alloc_o (.cells #[.int .i64 0, .int .i64 0] 45) s1
            have N1 := Aside0.mk (Kd.R_alloc HS.out (.cells #[.int .i64 0, .int .i64 0] 45))
            have N2 := Aside0.mk (below_alloc HB.out (.cells #[.int .i64 0, .int .i64 0] 45))
            have NB20 := Aside0.mk (blk_alloc B20.out (.cells #[.int .i64 0, .int .i64 0] 45))
            refine hK.out _ _ ⟨q0, q1⟩ (fun hHeld => ?_)
            clear s0 s1 HB HS B20
            have s0 := q0
            have s1 := q1
            have HS := N1
            have HB := N2
            have B20 := NB20
            have B21 := NX
            clear q0 q1 N1 N2 NX NB20
            generalize Wa11.alloc (.cells #[.int .i64 0, .int .i64 0] 45) = Wa16 at *
            generalize Wa11.heap.size = g21 at *
            clear hK K
            try simp only [Act.put, List.setIfInBounds_toArray, List.set_cons_zero, List.set_cons_succ]
            refine wpAnyH_ready (rs := [7]) (by kernel_rfl) (by simp) ?_
            refine AllReadyH.cons (o := { dst := some 289, op := Op.call { callee := Callee.value (Operand.func 26), args := #[Operand.tmp 286, Operand.tmp 287, Operand.const (Value.bool true), Operand.tmp 288], argTypes := #[24, 27, 4, 3] }, type := 45, pos := "outright.go:175", after := #[{ on := 4, ground := Ground.data }, { on := 5, ground := Ground.data }, { on := 6, ground := Ground.data }, { on := 3, ground := Ground.chain }], guard := none }) rfl (fun K hK => ?_) ?_
            · go_simp
              refine (sum_any _ _ true _ _ _ _ _ _ _ (Kd.C_below HR.out HB.out) hc HP.out (Kd.R_reads' HS.out).2.2 (Kd.R_reads' HS.out).2.1 HWS.out).mono ?_
              rintro e Wc17 ⟨rfl, hb⟩
              have q0 := (hb.cell (World.block_lt_of_cell? _ _ s0)).trans s0
              have q1 := (hb.cell (World.block_lt_of_cell? _ _ s1)).trans s1
              have N1 := Aside0.mk (Kd.R_below HS.out hb)
              have N2 := Aside0.mk (bl_next HB.out hb)
              have NB20 := Aside0.mk (blk_below B20.out hb)
              have NB21 := Aside0.mk (blk_below B21.out hb)
              refine hK.out _ _ ⟨q0, q1⟩ (fun hHeld => ?_)
              clear hb s0 s1 HS HB B20 B21
              have s0 := q0
              have s1 := q1
              have HS := N1
              have HB := N2
              have B20 := NB20
              have B21 := NB21
              clear q0 q1 N1 N2 NB20 NB21
              clear hK K
              try simp only [Act.put, List.setIfInBounds_toArray, List.set_cons_zero, List.set_cons_succ]
              refine wpAnyH_ready (rs := [10]) (by kernel_rfl) (by simp) ?_
              refine AllReadyH.cons (o := { dst := none, op := Op.store 45 (Operand.tmp 20) (Operand.tmp 285), type := 0, pos := "outright.go:175", after := #[{ on := 8, ground := Ground.data }, { on := 3, ground := Ground.data }, { on := 7, ground := Ground.chain }, { on := 0, ground := Ground.phase }, { on := 1, ground := Ground.phase }, { on := 2, ground := Ground.phase }, { on := 3, ground := Ground.phase }, { on := 4, ground := Ground.textOnly Departure.lateStores }, { on := 5, ground := Ground.textOnly Departure.lateStores }, { on := 6, ground := Ground.textOnly Departure.lateStores }, { on := 7, ground := Ground.textOnly Departure.lateStoresUnsure }, { on := 8, ground := Ground.phase }, { on := 9, ground := Ground.phase }], guard := none }) rfl (fun K hK => ?_) ?_
              · have z0 := cell_two B20.out 0 rfl
                have z1 := cell_two B20.out 1 rfl
                have zf0 := blk_frozen B20.out 0
                have zf1 := blk_frozen B20.out 1
                go_simp
                have hne : g20 ≠ w.heap.size := Nat.ne_of_gt glt20
                have q0 := (World.cell?_setCell_far (Wc17.setCell ⟨g20, 0, none⟩ (.int .i64 (totalW (listS s) flow false false l))) ⟨g20, 1, none⟩ ⟨w.heap.size, 0, none⟩ (.int .i64 (totalW (listS s) flow false true l)) hne).trans ((World.cell?_setCell_far Wc17 ⟨g20, 0, none⟩ ⟨w.heap.size, 0, none⟩ (.int .i64 (totalW (listS s) flow false false l)) hne).trans s0)
                have q1 := (World.cell?_setCell_far (Wc17.setCell ⟨g20, 0, none⟩ (.int .i64 (totalW (listS s) flow false false l))) ⟨g20, 1, none⟩ ⟨w.heap.size, 1, none⟩ (.int .i64 (totalW (listS s) flow false true l)) hne).trans ((World.cell?_setCell_far Wc17 ⟨g20, 0, none⟩ ⟨w.heap.size, 1, none⟩ (.int .i64 (totalW (listS s) flow false false l)) hne).trans s1)
                have N2 := Aside0.mk (below_set (j := 1) (v := .int .i64 (totalW (listS s) flow false true l)) (below_set (j := 0) (v := .int .i64 (totalW (listS s) flow false false l)) HB.out (Nat.le_of_lt glt20)) (Nat.le_of_lt glt20))
                have NX := Aside0.mk (blk_put (blk_put B20.out 0 (.int .i64 (totalW (listS s) flow false false l)) rfl) 1 (.int .i64 (totalW (listS s) flow false true l)) rfl)
                have NB21 := Aside0.mk (blk_set_ne (blk_set_ne B21.out (Nat.ne_of_lt gd2021) 0 (.int .i64 (totalW (listS s) flow false false l))) (Nat.ne_of_lt gd2021) 1 (.int .i64 (totalW (listS s) flow false true l)))
                refine hK.out _ _ ⟨q0, q1⟩ (fun hHeld => ?_)
                clear s0 s1 HB z0 z1 zf0 zf1 hne HS B20 B21
                have s0 := q0
                have s1 := q1
                have HB := N2
                have B21 := NB21
                have B20 := NX
                clear q0 q1 N2 NX NB21
                generalize (Wc17.setCell ⟨g20, 0, none⟩ (.int .i64 (totalW (listS s) flow false false l))).setCell ⟨g20, 1, none⟩ (.int .i64 (totalW (listS s) flow false true l)) = Ws18 at *
                clear hK K
                try simp only [Act.put, List.setIfInBounds_toArray, List.set_cons_zero, List.set_cons_succ]
                refine wpAnyH_ready (rs := [11]) (by kernel_rfl) (by simp) ?_
                refine AllReadyH.cons (o := { dst := none, op := Op.store 45 (Operand.tmp 21) (Operand.tmp 289), type := 0, pos := "outright.go:175", after := #[{ on := 9, ground := Ground.data }, { on := 7, ground := Ground.data }, { on := 10, ground := Ground.chain }, { on := 0, ground := Ground.phase }, { on := 1, ground := Ground.phase }, { on := 2, ground := Ground.phase }, { on := 3, ground := Ground.phase }, { on := 4, ground := Ground.phase }, { on := 5, ground := Ground.phase }, { on := 6, ground := Ground.phase }, { on := 7, ground := Ground.phase }, { on := 8, ground := Ground.phase }, { on := 9, ground := Ground.phase }, { on := 10, ground := Ground.phase }], guard := none }) rfl (fun K hK => ?_) ?_
                · have z0 := cell_two B21.out 0 rfl
                  have z1 := cell_two B21.out 1 rfl
                  have zf0 := blk_frozen B21.out 0
                  have zf1 := blk_frozen B21.out 1
                  go_simp
                  have hne : g21 ≠ w.heap.size := Nat.ne_of_gt glt21
                  have q0 := (World.cell?_setCell_far (Ws18.setCell ⟨g21, 0, none⟩ (.int .i64 (totalW (listS s) flow true false l))) ⟨g21, 1, none⟩ ⟨w.heap.size, 0, none⟩ (.int .i64 (totalW (listS s) flow true true l)) hne).trans ((World.cell?_setCell_far Ws18 ⟨g21, 0, none⟩ ⟨w.heap.size, 0, none⟩ (.int .i64 (totalW (listS s) flow true false l)) hne).trans s0)
                  have q1 := (World.cell?_setCell_far (Ws18.setCell ⟨g21, 0, none⟩ (.int .i64 (totalW (listS s) flow true false l))) ⟨g21, 1, none⟩ ⟨w.heap.size, 1, none⟩ (.int .i64 (totalW (listS s) flow true true l)) hne).trans ((World.cell?_setCell_far Ws18 ⟨g21, 0, none⟩ ⟨w.heap.size, 1, none⟩ (.int .i64 (totalW (listS s) flow true false l)) hne).trans s1)
                  have N2 := Aside0.mk (below_set (j := 1) (v := .int .i64 (totalW (listS s) flow true true l)) (below_set (j := 0) (v := .int .i64 (totalW (listS s) flow true false l)) HB.out (Nat.le_of_lt glt21)) (Nat.le_of_lt glt21))
                  have NX := Aside0.mk (blk_put (blk_put B21.out 0 (.int .i64 (totalW (listS s) flow true false l)) rfl) 1 (.int .i64 (totalW (listS s) flow true true l)) rfl)
                  have NB20 := Aside0.mk (blk_set_ne (blk_set_ne B20.out (Nat.ne_of_gt gd2021) 0 (.int .i64 (totalW (listS s) flow true false l))) (Nat.ne_of_gt gd2021) 1 (.int .i64 (totalW (listS s) flow true true l)))
                  refine hK.out _ _ ⟨q0, q1⟩ (fun hHeld => ?_)
                  clear s0 s1 HB z0 z1 zf0 zf1 hne B20 B21
                  have s0 := q0
                  have s1 := q1
                  have HB := N2
                  have B20 := NB20
                  have B21 := NX
                  clear q0 q1 N2 NX NB20
                  generalize (Ws18.setCell ⟨g21, 0, none⟩ (.int .i64 (totalW (listS s) flow true false l))).setCell ⟨g21, 1, none⟩ (.int .i64 (totalW (listS s) flow true true l)) = Ws19 at *
                  clear hK K
                  try simp only [Act.put, List.setIfInBounds_toArray, List.set_cons_zero, List.set_cons_succ]
                  refine wpAnyH_done (by kernel_rfl) ?_ _
                  have z0 := cell_two B20.out 0 rfl
                  have z1 := cell_two B20.out 1 rfl
                  have z2 := cell_two B21.out 0 rfl
                  have z3 := cell_two B21.out 1 rfl
                  go_wp2_with (go_at_call 10; refine (awake_any _).mono ?_; rintro e Wz ⟨rfl, hb⟩; have HBz := Aside0.mk (bl_next HB.out hb); clear hb)
                  go_ret
                  exact ⟨rfl, HBz.out⟩
                exact AllReadyH.nil
              exact AllReadyH.nil
            exact AllReadyH.nil
          exact AllReadyH.nil
        refine AllReadyH.cons (o := { dst := some 21, op := Op.alloc 45, type := 0, pos := "outright.go:175", after := #[], guard := none }) rfl (fun K hK => ?_) ?_
        · go_simp
          have NX := Aside0.mk (blk_new Wc1 (.cells #[.int .i64 0, .int .i64 0] 45))
          have glt21 := World.block_lt_of_cell? _ _ s0
          have q0 := cell_alloc_o (.cells #[.int .i64 0, .int .i64 0] 45) s0
          have q1 := cell_alloc_o (.cells #[.int .i64 0, .int .i64 0] 45) s1
          have N1 := Aside0.mk (Kd.R_alloc HS.out (.cells #[.int .i64 0, .int .i64 0] 45))
          have N2 := Aside0.mk (below_alloc HB.out (.cells #[.int .i64 0, .int .i64 0] 45))
          refine hK.out _ _ ⟨q0, q1⟩ (fun hHeld => ?_)
          clear s0 s1 HB HS
          have s0 := q0
          have s1 := q1
          have HS := N1
          have HB := N2
          have B21 := NX
          clear q0 q1 N1 N2 NX
          generalize Wc1.alloc (.cells #[.int .i64 0, .int .i64 0] 45) = Wa20 at *
          generalize Wc1.heap.size = g21 at *
          clear hK K
          try simp only [Act.put, List.setIfInBounds_toArray, List.set_cons_zero, List.set_cons_succ]
          refine wpAnyH_ready (rs := [7, 8]) (by kernel_rfl) (by simp) ?_
          refine AllReadyH.cons (o := { dst := some 289, op := Op.call { callee := Callee.value (Operand.func 26), args := #[Operand.tmp 286, Operand.tmp 287, Operand.const (Value.bool true), Operand.tmp 288], argTypes := #[24, 27, 4, 3] }, type := 45, pos := "outright.go:175", after := #[{ on := 4, ground := Ground.data }, { on := 5, ground := Ground.data }, { on := 6, ground := Ground.data }, { on := 3, ground := Ground.chain }], guard := none }) rfl (fun K hK => ?_) ?_
          · go_simp
            refine (sum_any _ _ true _ _ _ _ _ _ _ (Kd.C_below HR.out HB.out) hc HP.out (Kd.R_reads' HS.out).2.2 (Kd.R_reads' HS.out).2.1 HWS.out).mono ?_
            rintro e Wc21 ⟨rfl, hb⟩
            have q0 := (hb.cell (World.block_lt_of_cell? _ _ s0)).trans s0
            have q1 := (hb.cell (World.block_lt_of_cell? _ _ s1)).trans s1
            have N1 := Aside0.mk (Kd.R_below HS.out hb)
            have N2 := Aside0.mk (bl_next HB.out hb)
            have NB21 := Aside0.mk (blk_below B21.out hb)
            refine hK.out _ _ ⟨q0, q1⟩ (fun hHeld => ?_)
            clear hb s0 s1 HS HB B21
            have s0 := q0
            have s1 := q1
            have HS := N1
            have HB := N2
            have B21 := NB21
            clear q0 q1 N1 N2 NB21
            clear hK K
            try simp only [Act.put, List.setIfInBounds_toArray, List.set_cons_zero, List.set_cons_succ]
            refine wpAnyH_ready (rs := [8]) (by kernel_rfl) (by simp) ?_
            refine AllReadyH.cons (o := { dst := some 20, op := Op.alloc 45, type := 0, pos := "outright.go:175", after := #[], guard := none }) rfl (fun K hK => ?_) ?_
            · go_simp
              have NX := Aside0.mk (blk_new Wc21 (.cells #[.int .i64 0, .int .i64 0] 45))
              have glt20 := World.block_lt_of_cell? _ _ s0
              have gd2120 := blk_lt B21.out
              have q0 := cell_alloc_o (.cells #[.int .i64 0, .int .i64 0] 45) s0
              have q1 := cell_alloc_o (.cells #[.int .i64 0, .int .i64 0] 45) s1
              have N1 := Aside0.mk (Kd.R_alloc HS.out (.cells #[.int .i64 0, .int .i64 0] 45))
              have N2 := Aside0.mk (below_alloc HB.out (.cells #[.int .i64 0, .int .i64 0] 45))
              have NB21 := Aside0.mk (blk_alloc B21.out (.cells #[.int .i64 0, .int .i64 0] 45))
              refine hK.out _ _ ⟨q0, q1⟩ (fun hHeld => ?_)
              clear s0 s1 HB HS B21
              have s0 := q0
              have s1 := q1
              have HS := N1
              have HB := N2
              have B21 := NB21
              have B20 := NX
              clear q0 q1 N1 N2 NX NB21
              generalize Wc21.alloc (.cells #[.int .i64 0, .int .i64 0] 45) = Wa22 at *
              generalize Wc21.heap.size = g20 at *
              clear hK K
              try simp only [Act.put, List.setIfInBounds_toArray, List.set_cons_zero, List.set_cons_succ]
              refine wpAnyH_ready (rs := [10]) (by kernel_rfl) (by simp) ?_
              refine AllReadyH.cons (o := { dst := none, op := Op.store 45 (Operand.tmp 20) (Operand.tmp 285), type := 0, pos := "outright.go:175", after := #[{ on := 8, ground := Ground.data }, { on := 3, ground := Ground.data }, { on := 7, ground := Ground.chain }, { on := 0, ground := Ground.phase }, { on := 1, ground := Ground.phase }, { on := 2, ground := Ground.phase }, { on := 3, ground := Ground.phase }, { on := 4, ground := Ground.textOnly Departure.lateStores }, { on := 5, ground := Ground.textOnly Departure.lateStores }, { on := 6, ground := Ground.textOnly Departure.lateStores }, { on := 7, ground := Ground.textOnly Departure.lateStoresUnsure }, { on := 8, ground := Ground.phase }, { on := 9, ground := Ground.phase }], guard := none }) rfl (fun K hK => ?_) ?_
              · have z0 := cell_two B20.out 0 rfl
                have z1 := cell_two B20.out 1 rfl
                have zf0 := blk_frozen B20.out 0
                have zf1 := blk_frozen B20.out 1
                go_simp
                have hne : g20 ≠ w.heap.size := Nat.ne_of_gt glt20
                have q0 := (World.cell?_setCell_far (Wa22.setCell ⟨g20, 0, none⟩ (.int .i64 (totalW (listS s) flow false false l))) ⟨g20, 1, none⟩ ⟨w.heap.size, 0, none⟩ (.int .i64 (totalW (listS s) flow false true l)) hne).trans ((World.cell?_setCell_far Wa22 ⟨g20, 0, none⟩ ⟨w.heap.size, 0, none⟩ (.int .i64 (totalW (listS s) flow false false l)) hne).trans s0)
                have q1 := (World.cell?_setCell_far (Wa22.setCell ⟨g20, 0, none⟩ (.int .i64 (totalW (listS s) flow false false l))) ⟨g20, 1, none⟩ ⟨w.heap.size, 1, none⟩ (.int .i64 (totalW (listS s) flow false true l)) hne).trans ((World.cell?_setCell_far Wa22 ⟨g20, 0, none⟩ ⟨w.heap.size, 1, none⟩ (.int .i64 (totalW (listS s) flow false false l)) hne).trans s1)
                have N2 := Aside0.mk (below_set (j := 1) (v := .int .i64 (totalW (listS s) flow false true l)) (below_set (j := 0) (v := .int .i64 (totalW (listS s) flow false false l)) HB.out (Nat.le_of_lt glt20)) (Nat.le_of_lt glt20))
                have NX := Aside0.mk (blk_put (blk_put B20.out 0 (.int .i64 (totalW (listS s) flow false false l)) rfl) 1 (.int .i64 (totalW (listS s) flow false true l)) rfl)
                have NB21 := Aside0.mk (blk_set_ne (blk_set_ne B21.out (Nat.ne_of_gt gd2120) 0 (.int .i64 (totalW (listS s) flow false false l))) (Nat.ne_of_gt gd2120) 1 (.int .i64 (totalW (listS s) flow false true l)))
                refine hK.out _ _ ⟨q0, q1⟩ (fun hHeld => ?_)
                clear s0 s1 HB z0 z1 zf0 zf1 hne HS B21 B20
                have s0 := q0
                have s1 := q1
                have HB := N2
                have B21 := NB21
                have B20 := NX
                clear q0 q1 N2 NX NB21
                generalize (Wa22.setCell ⟨g20, 0, none⟩ (.int .i64 (totalW (listS s) flow false false l))).setCell ⟨g20, 1, none⟩ (.int .i64 (totalW (listS s) flow false true l)) = Ws23 at *
                clear hK K
                try simp only [Act.put, List.setIfInBounds_toArray, List.set_cons_zero, List.set_cons_succ]
                refine wpAnyH_ready (rs := [11]) (by kernel_rfl) (by simp) ?_
                refine AllReadyH.cons (o := { dst := none, op := Op.store 45 (Operand.tmp 21) (Operand.tmp 289), type := 0, pos := "outright.go:175", after := #[{ on := 9, ground := Ground.data }, { on := 7, ground := Ground.data }, { on := 10, ground := Ground.chain }, { on := 0, ground := Ground.phase }, { on := 1, ground := Ground.phase }, { on := 2, ground := Ground.phase }, { on := 3, ground := Ground.phase }, { on := 4, ground := Ground.phase }, { on := 5, ground := Ground.phase }, { on := 6, ground := Ground.phase }, { on := 7, ground := Ground.phase }, { on := 8, ground := Ground.phase }, { on := 9, ground := Ground.phase }, { on := 10, ground := Ground.phase }], guard := none }) rfl (fun K hK => ?_) ?_
                · have z0 := cell_two B21.out 0 rfl
                  have z1 := cell_two B21.out 1 rfl
                  have zf0 := blk_frozen B21.out 0
                  have zf1 := blk_frozen B21.out 1
                  go_simp
                  have hne : g21 ≠ w.heap.size := Nat.ne_of_gt glt21
                  have q0 := (World.cell?_setCell_far (Ws23.setCell ⟨g21, 0, none⟩ (.int .i64 (totalW (listS s) flow true false l))) ⟨g21, 1, none⟩ ⟨w.heap.size, 0, none⟩ (.int .i64 (totalW (listS s) flow true true l)) hne).trans ((World.cell?_setCell_far Ws23 ⟨g21, 0, none⟩ ⟨w.heap.size, 0, none⟩ (.int .i64 (totalW (listS s) flow true false l)) hne).trans s0)
                  have q1 := (World.cell?_setCell_far (Ws23.setCell ⟨g21, 0, none⟩ (.int .i64 (totalW (listS s) flow true false l))) ⟨g21, 1, none⟩ ⟨w.heap.size, 1, none⟩ (.int .i64 (totalW (listS s) flow true true l)) hne).trans ((World.cell?_setCell_far Ws23 ⟨g21, 0, none⟩ ⟨w.heap.size, 1, none⟩ (.int .i64 (totalW (listS s) flow true false l)) hne).trans s1)
                  have N2 := Aside0.mk (below_set (j := 1) (v := .int .i64 (totalW (listS s) flow true true l)) (below_set (j := 0) (v := .int .i64 (totalW (listS s) flow true false l)) HB.out (Nat.le_of_lt glt21)) (Nat.le_of_lt glt21))
                  have NX := Aside0.mk (blk_put (blk_put B21.out 0 (.int .i64 (totalW (listS s) flow true false l)) rfl) 1 (.int .i64 (totalW (listS s) flow true true l)) rfl)
                  have NB20 := Aside0.mk (blk_set_ne (blk_set_ne B20.out (Nat.ne_of_lt gd2120) 0 (.int .i64 (totalW (listS s) flow true false l))) (Nat.ne_of_lt gd2120) 1 (.int .i64 (totalW (listS s) flow true true l)))
                  refine hK.out _ _ ⟨q0, q1⟩ (fun hHeld => ?_)
                  clear s0 s1 HB z0 z1 zf0 zf1 hne B21 B20
                  have s0 := q0
                  have s1 := q1
                  have HB := N2
                  have B20 := NB20
                  have B21 := NX
                  clear q0 q1 N2 NX NB20
                  generalize (Ws23.setCell ⟨g21, 0, none⟩ (.int .i64 (totalW (listS s) flow true false l))).setCell ⟨g21, 1, none⟩ (.int .i64 (totalW (listS s) flow true true l)) = Ws24 at *
                  clear hK K
                  try simp only [Act.put, List.setIfInBounds_toArray, List.set_cons_zero, List.set_cons_succ]
                  refine wpAnyH_done (by kernel_rfl) ?_ _
                  have z0 := cell_two B20.out 0 rfl
                  have z1 := cell_two B20.out 1 rfl
                  have z2 := cell_two B21.out 0 rfl
                  have z3 := cell_two B21.out 1 rfl
                  go_wp2_with (go_at_call 10; refine (awake_any _).mono ?_; rintro e Wz ⟨rfl, hb⟩; have HBz := Aside0.mk (bl_next HB.out hb); clear hb)
                  go_ret
                  exact ⟨rfl, HBz.out⟩
                exact AllReadyH.nil
              exact AllReadyH.nil
            exact AllReadyH.nil
          refine AllReadyH.cons (o := { dst := some 20, op := Op.alloc 45, type := 0, pos := "outright.go:175", after := #[], guard := none }) rfl (fun K hK => ?_) ?_
          · go_simp
            have NX := Aside0.mk (blk_new Wa20 (.cells #[.int .i64 0, .int .i64 0] 45))
            have glt20 := World.block_lt_of_cell? _ _ s0
            have gd2120 := blk_lt B21.out
            have q0 := cell_alloc_o (.cells #[.int .i64 0, .int .i64 0] 45) s0
            have q1 := cell_alloc_o (.cells #[.int .i64 0, .int .i64 0] 45) s1
            have N1 := Aside0.mk (Kd.R_alloc HS.out (.cells #[.int .i64 0, .int .i64 0] 45))
            have N2 := Aside0.mk (below_alloc HB.out (.cells #[.int .i64 0, .int .i64 0] 45))
            have NB21 := Aside0.mk (blk_alloc B21.out (.cells #[.int .i64 0, .int .i64 0] 45))
            refine hK.out _ _ ⟨q0, q1⟩ (fun hHeld => ?_)
            clear s0 s1 HB HS B21
            have s0 := q0
            have s1 := q1
            have HS := N1
            have HB := N2
            have B21 := NB21
            have B20 := NX
            clear q0 q1 N1 N2 NX NB21
            generalize Wa20.alloc (.cells #[.int .i64 0, .int .i64 0] 45) = Wa25 at *
            generalize Wa20.heap.size = g20 at *
            clear hK K
            try simp only [Act.put, List.setIfInBounds_toArray, List.set_cons_zero, List.set_cons_succ]
            refine wpAnyH_ready (rs := [7]) (by kernel_rfl) (by simp) ?_
            refine AllReadyH.cons (o := { dst := some 289, op := Op.call { callee := Callee.value (Operand.func 26), args := #[Operand.tmp 286, Operand.tmp 287, Operand.const (Value.bool true), Operand.tmp 288], argTypes := #[24, 27, 4, 3] }, type := 45, pos := "outright.go:175", after := #[{ on := 4, ground := Ground.data }, { on := 5, ground := Ground.data }, { on := 6, ground := Ground.data }, { on := 3, ground := Ground.chain }], guard := none }) rfl (fun K hK => ?_) ?_
            · go_simp
              refine (sum_any _ _ true _ _ _ _ _ _ _ (Kd.C_below HR.out HB.out) hc HP.out (Kd.R_reads' HS.out).2.2 (Kd.R_reads' HS.out).2.1 HWS.out).mono ?_
              rintro e Wc26 ⟨rfl, hb⟩
              have q0 := (hb.cell (World.block_lt_of_cell? _ _ s0)).trans s0
              have q1 := (hb.cell (World.block_lt_of_cell? _ _ s1)).trans s1
              have N1 := Aside0.mk (Kd.R_below HS.out hb)
              have N2 := Aside0.mk (bl_next HB.out hb)
              have NB21 := Aside0.mk (blk_below B21.out hb)
              have NB20 := Aside0.mk (blk_below B20.out hb)
              refine hK.out _ _ ⟨q0, q1⟩ (fun hHeld => ?_)
              clear hb s0 s1 HS HB B21 B20
              have s0 := q0
              have s1 := q1
              have HS := N1
              have HB := N2
              have B21 := NB21
              have B20 := NB20
              clear q0 q1 N1 N2 NB21 NB20
              clear hK K
              try simp only [Act.put, List.setIfInBounds_toArray, List.set_cons_zero, List.set_cons_succ]
              refine wpAnyH_ready (rs := [10]) (by kernel_rfl) (by simp) ?_
              refine AllReadyH.cons (o := { dst := none, op := Op.store 45 (Operand.tmp 20) (Operand.tmp 285), type := 0, pos := "outright.go:175", after := #[{ on := 8, ground := Ground.data }, { on := 3, ground := Ground.data }, { on := 7, ground := Ground.chain }, { on := 0, ground := Ground.phase }, { on := 1, ground := Ground.phase }, { on := 2, ground := Ground.phase }, { on := 3, ground := Ground.phase }, { on := 4, ground := Ground.textOnly Departure.lateStores }, { on := 5, ground := Ground.textOnly Departure.lateStores }, { on := 6, ground := Ground.textOnly Departure.lateStores }, { on := 7, ground := Ground.textOnly Departure.lateStoresUnsure }, { on := 8, ground := Ground.phase }, { on := 9, ground := Ground.phase }], guard := none }) rfl (fun K hK => ?_) ?_
              · have z0 := cell_two B20.out 0 rfl
                have z1 := cell_two B20.out 1 rfl
                have zf0 := blk_frozen B20.out 0
                have zf1 := blk_frozen B20.out 1
                go_simp
                have hne : g20 ≠ w.heap.size := Nat.ne_of_gt glt20
                have q0 := (World.cell?_setCell_far (Wc26.setCell ⟨g20, 0, none⟩ (.int .i64 (totalW (listS s) flow false false l))) ⟨g20, 1, none⟩ ⟨w.heap.size, 0, none⟩ (.int .i64 (totalW (listS s) flow false true l)) hne).trans ((World.cell?_setCell_far Wc26 ⟨g20, 0, none⟩ ⟨w.heap.size, 0, none⟩ (.int .i64 (totalW (listS s) flow false false l)) hne).trans s0)
                have q1 := (World.cell?_setCell_far (Wc26.setCell ⟨g20, 0, none⟩ (.int .i64 (totalW (listS s) flow false false l))) ⟨g20, 1, none⟩ ⟨w.heap.size, 1, none⟩ (.int .i64 (totalW (listS s) flow false true l)) hne).trans ((World.cell?_setCell_far Wc26 ⟨g20, 0, none⟩ ⟨w.heap.size, 1, none⟩ (.int .i64 (totalW (listS s) flow false false l)) hne).trans s1)
                have N2 := Aside0.mk (below_set (j := 1) (v := .int .i64 (totalW (listS s) flow false true l)) (below_set (j := 0) (v := .int .i64 (totalW (listS s) flow false false l)) HB.out (Nat.le_of_lt glt20)) (Nat.le_of_lt glt20))
                have NX := Aside0.mk (blk_put (blk_put B20.out 0 (.int .i64 (totalW (listS s) flow false false l)) rfl) 1 (.int .i64 (totalW (listS s) flow false true l)) rfl)
                have NB21 := Aside0.mk (blk_set_ne (blk_set_ne B21.out (Nat.ne_of_gt gd2120) 0 (.int .i64 (totalW (listS s) flow false false l))) (Nat.ne_of_gt gd2120) 1 (.int .i64 (totalW (listS s) flow false true l)))
                refine hK.out _ _ ⟨q0, q1⟩ (fun hHeld => ?_)
                clear s0 s1 HB z0 z1 zf0 zf1 hne HS B21 B20
                have s0 := q0
                have s1 := q1
                have HB := N2
                have B21 := NB21
                have B20 := NX
                clear q0 q1 N2 NX NB21
                generalize (Wc26.setCell ⟨g20, 0, none⟩ (.int .i64 (totalW (listS s) flow false false l))).setCell ⟨g20, 1, none⟩ (.int .i64 (totalW (listS s) flow false true l)) = Ws27 at *
                clear hK K
                try simp only [Act.put, List.setIfInBounds_toArray, List.set_cons_zero, List.set_cons_succ]
                refine wpAnyH_ready (rs := [11]) (by kernel_rfl) (by simp) ?_
                refine AllReadyH.cons (o := { dst := none, op := Op.store 45 (Operand.tmp 21) (Operand.tmp 289), type := 0, pos := "outright.go:175", after := #[{ on := 9, ground := Ground.data }, { on := 7, ground := Ground.data }, { on := 10, ground := Ground.chain }, { on := 0, ground := Ground.phase }, { on := 1, ground := Ground.phase }, { on := 2, ground := Ground.phase }, { on := 3, ground := Ground.phase }, { on := 4, ground := Ground.phase }, { on := 5, ground := Ground.phase }, { on := 6, ground := Ground.phase }, { on := 7, ground := Ground.phase }, { on := 8, ground := Ground.phase }, { on := 9, ground := Ground.phase }, { on := 10, ground := Ground.phase }], guard := none }) rfl (fun K hK => ?_) ?_
                · have z0 := cell_two B21.out 0 rfl
                  have z1 := cell_two B21.out 1 rfl
                  have zf0 := blk_frozen B21.out 0
                  have zf1 := blk_frozen B21.out 1
                  go_simp
                  have hne : g21 ≠ w.heap.size := Nat.ne_of_gt glt21
                  have q0 := (World.cell?_setCell_far (Ws27.setCell ⟨g21, 0, none⟩ (.int .i64 (totalW (listS s) flow true false l))) ⟨g21, 1, none⟩ ⟨w.heap.size, 0, none⟩ (.int .i64 (totalW (listS s) flow true true l)) hne).trans ((World.cell?_setCell_far Ws27 ⟨g21, 0, none⟩ ⟨w.heap.size, 0, none⟩ (.int .i64 (totalW (listS s) flow true false l)) hne).trans s0)
                  have q1 := (World.cell?_setCell_far (Ws27.setCell ⟨g21, 0, none⟩ (.int .i64 (totalW (listS s) flow true false l))) ⟨g21, 1, none⟩ ⟨w.heap.size, 1, none⟩ (.int .i64 (totalW (listS s) flow true true l)) hne).trans ((World.cell?_setCell_far Ws27 ⟨g21, 0, none⟩ ⟨w.heap.size, 1, none⟩ (.int .i64 (totalW (listS s) flow true false l)) hne).trans s1)
                  have N2 := Aside0.mk (below_set (j := 1) (v := .int .i64 (totalW (listS s) flow true true l)) (below_set (j := 0) (v := .int .i64 (totalW (listS s) flow true false l)) HB.out (Nat.le_of_lt glt21)) (Nat.le_of_lt glt21))
                  have NX := Aside0.mk (blk_put (blk_put B21.out 0 (.int .i64 (totalW (listS s) flow true false l)) rfl) 1 (.int .i64 (totalW (listS s) flow true true l)) rfl)
                  have NB20 := Aside0.mk (blk_set_ne (blk_set_ne B20.out (Nat.ne_of_lt gd2120) 0 (.int .i64 (totalW (listS s) flow true false l))) (Nat.ne_of_lt gd2120) 1 (.int .i64 (totalW (listS s) flow true true l)))
                  refine hK.out _ _ ⟨q0, q1⟩ (fun hHeld => ?_)
                  clear s0 s1 HB z0 z1 zf0 zf1 hne B21 B20
                  have s0 := q0
                  have s1 := q1
                  have HB := N2
                  have B20 := NB20
                  have B21 := NX
                  clear q0 q1 N2 NX NB20
                  generalize (Ws27.setCell ⟨g21, 0, none⟩ (.int .i64 (totalW (listS s) flow true false l))).setCell ⟨g21, 1, none⟩ (.int .i64 (totalW (listS s) flow true true l)) = Ws28 at *
                  clear hK K
                  try simp only [Act.put, List.setIfInBounds_toArray, List.set_cons_zero, List.set_cons_succ]
                  refine wpAnyH_done (by kernel_rfl) ?_ _
                  have z0 := cell_two B20.out 0 rfl
                  have z1 := cell_two B20.out 1 rfl
                  have z2 := cell_two B21.out 0 rfl
                  have z3 := cell_two B21.out 1 rfl
                  go_wp2_with (go_at_call 10; refine (awake_any _).mono ?_; rintro e Wz ⟨rfl, hb⟩; have HBz := Aside0.mk (bl_next HB.out hb); clear hb)
                  go_ret
                  exact ⟨rfl, HBz.out⟩
                exact AllReadyH.nil
              exact AllReadyH.nil
            exact AllReadyH.nil
          exact AllReadyH.nil
        exact AllReadyH.nil
      refine AllReadyH.cons (o := { dst := some 20, op := Op.alloc 45, type := 0, pos := "outright.go:175", after := #[], guard := none }) rfl (fun K hK => ?_) ?_
      · go_simp
        have NX := Aside0.mk (blk_new Wd (.cells #[.int .i64 0, .int .i64 0] 45))
        have glt20 := World.block_lt_of_cell? _ _ s0
        have q0 := cell_alloc_o (.cells #[.int .i64 0, .int .i64 0] 45) s0
        have q1 := cell_alloc_o (.cells #[.int .i64 0, .int .i64 0] 45) s1
        have N1 := Aside0.mk (Kd.R_alloc HS.out (.cells #[.int .i64 0, .int .i64 0] 45))
        have N2 := Aside0.mk (below_alloc HB.out (.cells #[.int .i64 0, .int .i64 0] 45))
        refine hK.out _ _ ⟨q0, q1⟩ (fun hHeld => ?_)
        clear s0 s1 HB HS
        have s0 := q0
        have s1 := q1
        have HS := N1
        have HB := N2
        have B20 := NX
        clear q0 q1 N1 N2 NX
        generalize Wd.alloc (.cells #[.int .i64 0, .int .i64 0] 45) = Wa29 at *
        generalize Wd.heap.size = g20 at *
        clear hK K
        try simp only [Act.put, List.setIfInBounds_toArray, List.set_cons_zero, List.set_cons_succ]
        refine wpAnyH_ready (rs := [3, 9]) (by kernel_rfl) (by simp) ?_
        refine AllReadyH.cons (o := { dst := some 285, op := Op.call { callee := Callee.value (Operand.func 26), args := #[Operand.tmp 282, Operand.tmp 283, Operand.const (Value.bool false), Operand.tmp 284], argTypes := #[24, 27, 4, 3] }, type := 45, pos := "outright.go:175", after := #[{ on := 0, ground := Ground.data }, { on := 1, ground := Ground.data }, { on := 2, ground := Ground.data }], guard := none }) rfl (fun K hK => ?_) ?_
        · go_simp
          refine (sum_any _ _ false _ _ _ _ _ _ _ (Kd.C_below HR.out HB.out) hc HP.out (Kd.R_reads' HS.out).2.2 (Kd.R_reads' HS.out).2.1 HWS.out).mono ?_
          rintro e Wc30 ⟨rfl, hb⟩
          have q0 := (hb.cell (World.block_lt_of_cell? _ _ s0)).trans s0
          have q1 := (hb.cell (World.block_lt_of_cell? _ _ s1)).trans s1
          have N1 := Aside0.mk (Kd.R_below HS.out hb)
          have N2 := Aside0.mk (bl_next HB.out hb)
          have NB20 := Aside0.mk (blk_below B20.out hb)
          refine hK.out _ _ ⟨q0, q1⟩ (fun hHeld => ?_)
          clear hb s0 s1 HS HB B20
          have s0 := q0
          have s1 := q1
          have HS := N1
          have HB := N2
          have B20 := NB20
          clear q0 q1 N1 N2 NB20
          clear hK K
          try simp only [Act.put, List.setIfInBounds_toArray, List.set_cons_zero, List.set_cons_succ]
          refine wpAnyH_ready (rs := [7, 9]) (by kernel_rfl) (by simp) ?_
          refine AllReadyH.cons (o := { dst := some 289, op := Op.call { callee := Callee.value (Operand.func 26), args := #[Operand.tmp 286, Operand.tmp 287, Operand.const (Value.bool true), Operand.tmp 288], argTypes := #[24, 27, 4, 3] }, type := 45, pos := "outright.go:175", after := #[{ on := 4, ground := Ground.data }, { on := 5, ground := Ground.data }, { on := 6, ground := Ground.data }, { on := 3, ground := Ground.chain }], guard := none }) rfl (fun K hK => ?_) ?_
          · go_simp
            refine (sum_any _ _ true _ _ _ _ _ _ _ (Kd.C_below HR.out HB.out) hc HP.out (Kd.R_reads' HS.out).2.2 (Kd.R_reads' HS.out).2.1 HWS.out).mono ?_
            rintro e Wc31 ⟨rfl, hb⟩
            have q0 := (hb.cell (World.block_lt_of_cell? _ _ s0)).trans s0
            have q1 := (hb.cell (World.block_lt_of_cell? _ _ s1)).trans s1
            have N1 := Aside0.mk (Kd.R_below HS.out hb)
            have N2 := Aside0.mk (bl_next HB.out hb)
            have NB20 := Aside0.mk (blk_below B20.out hb)
            refine hK.out _ _ ⟨q0, q1⟩ (fun hHeld => ?_)
            clear hb s0 s1 HS HB B20
            have s0 := q0
            have s1 := q1
            have HS := N1
            have HB := N2
            have B20 := NB20
            clear q0 q1 N1 N2 NB20
            clear hK K
            try simp only [Act.put, List.setIfInBounds_toArray, List.set_cons_zero, List.set_cons_succ]
            refine wpAnyH_ready (rs := [9]) (by kernel_rfl) (by simp) ?_
            refine AllReadyH.cons (o := { dst := some 21, op := Op.alloc 45, type := 0, pos := "outright.go:175", after := #[], guard := none }) rfl (fun K hK => ?_) ?_
            · go_simp
              have NX := Aside0.mk (blk_new Wc31 (.cells #[.int .i64 0, .int .i64 0] 45))
              have glt21 := World.block_lt_of_cell? _ _ s0
              have gd2021 := blk_lt B20.out
              have q0 := cell_alloc_o (.cells #[.int .i64 0, .int .i64 0] 45) s0
              have q1 := cell_alloc_o (.cells #[.int .i64 0, .int .i64 0] 45) s1
              have N1 := Aside0.mk (Kd.R_alloc HS.out (.cells #[.int .i64 0, .int .i64 0] 45))
              have N2 := Aside0.mk (below_alloc HB.out (.cells #[.int .i64 0, .int .i64 0] 45))
              have NB20 := Aside0.mk (blk_alloc B20.out (.cells #[.int .i64 0, .int .i64 0] 45))
              refine hK.out _ _ ⟨q0, q1⟩ (fun hHeld => ?_)
              clear s0 s1 HB HS B20
              have s0 := q0
              have s1 := q1
              have HS := N1
              have HB := N2
              have B20 := NB20
              have B21 := NX
              clear q0 q1 N1 N2 NX NB20
              generalize Wc31.alloc (.cells #[.int .i64 0, .int .i64 0] 45) = Wa32 at *
              generalize Wc31.heap.size = g21 at *
              clear hK K
              try simp only [Act.put, List.setIfInBounds_toArray, List.set_cons_zero, List.set_cons_succ]
              refine wpAnyH_ready (rs := [10]) (by kernel_rfl) (by simp) ?_
              refine AllReadyH.cons (o := { dst := none, op := Op.store 45 (Operand.tmp 20) (Operand.tmp 285), type := 0, pos := "outright.go:175", after := #[{ on := 8, ground := Ground.data }, { on := 3, ground := Ground.data }, { on := 7, ground := Ground.chain }, { on := 0, ground := Ground.phase }, { on := 1, ground := Ground.phase }, { on := 2, ground := Ground.phase }, { on := 3, ground := Ground.phase }, { on := 4, ground := Ground.textOnly Departure.lateStores }, { on := 5, ground := Ground.textOnly Departure.lateStores }, { on := 6, ground := Ground.textOnly Departure.lateStores }, { on := 7, ground := Ground.textOnly Departure.lateStoresUnsure }, { on := 8, ground := Ground.phase }, { on := 9, ground := Ground.phase }], guard := none }) rfl (fun K hK => ?_) ?_
              · have z0 := cell_two B20.out 0 rfl
                have z1 := cell_two B20.out 1 rfl
                have zf0 := blk_frozen B20.out 0
                have zf1 := blk_frozen B20.out 1
                go_simp
                have hne : g20 ≠ w.heap.size := Nat.ne_of_gt glt20
                have q0 := (World.cell?_setCell_far (Wa32.setCell ⟨g20, 0, none⟩ (.int .i64 (totalW (listS s) flow false false l))) ⟨g20, 1, none⟩ ⟨w.heap.size, 0, none⟩ (.int .i64 (totalW (listS s) flow false true l)) hne).trans ((World.cell?_setCell_far Wa32 ⟨g20, 0, none⟩ ⟨w.heap.size, 0, none⟩ (.int .i64 (totalW (listS s) flow false false l)) hne).trans s0)
                have q1 := (World.cell?_setCell_far (Wa32.setCell ⟨g20, 0, none⟩ (.int .i64 (totalW (listS s) flow false false l))) ⟨g20, 1, none⟩ ⟨w.heap.size, 1, none⟩ (.int .i64 (totalW (listS s) flow false true l)) hne).trans ((World.cell?_setCell_far Wa32 ⟨g20, 0, none⟩ ⟨w.heap.size, 1, none⟩ (.int .i64 (totalW (listS s) flow false false l)) hne).trans s1)
                have N2 := Aside0.mk (below_set (j := 1) (v := .int .i64 (totalW (listS s) flow false true l)) (below_set (j := 0) (v := .int .i64 (totalW (listS s) flow false false l)) HB.out (Nat.le_of_lt glt20)) (Nat.le_of_lt glt20))
                have NX := Aside0.mk (blk_put (blk_put B20.out 0 (.int .i64 (totalW (listS s) flow false false l)) rfl) 1 (.int .i64 (totalW (listS s) flow false true l)) rfl)
                have NB21 := Aside0.mk (blk_set_ne (blk_set_ne B21.out (Nat.ne_of_lt gd2021) 0 (.int .i64 (totalW (listS s) flow false false l))) (Nat.ne_of_lt gd2021) 1 (.int .i64 (totalW (listS s) flow false true l)))
                refine hK.out _ _ ⟨q0, q1⟩ (fun hHeld => ?_)
                clear s0 s1 HB z0 z1 zf0 zf1 hne HS B20 B21
                have s0 := q0
                have s1 := q1
                have HB := N2
                have B21 := NB21
                have B20 := NX
                clear q0 q1 N2 NX NB21
                generalize (Wa32.setCell ⟨g20, 0, none⟩ (.int .i64 (totalW (listS s) flow false false l))).setCell ⟨g20, 1, none⟩ (.int .i64 (totalW (listS s) flow false true l)) = Ws33 at *
                clear hK K
                try simp only [Act.put, List.setIfInBounds_toArray, List.set_cons_zero, List.set_cons_succ]
                refine wpAnyH_ready (rs := [11]) (by kernel_rfl) (by simp) ?_
                refine AllReadyH.cons (o := { dst := none, op := Op.store 45 (Operand.tmp 21) (Operand.tmp 289), type := 0, pos := "outright.go:175", after := #[{ on := 9, ground := Ground.data }, { on := 7, ground := Ground.data }, { on := 10, ground := Ground.chain }, { on := 0, ground := Ground.phase }, { on := 1, ground := Ground.phase }, { on := 2, ground := Ground.phase }, { on := 3, ground := Ground.phase }, { on := 4, ground := Ground.phase }, { on := 5, ground := Ground.phase }, { on := 6, ground := Ground.phase }, { on := 7, ground := Ground.phase }, { on := 8, ground := Ground.phase }, { on := 9, ground := Ground.phase }, { on := 10, ground := Ground.phase }], guard := none }) rfl (fun K hK => ?_) ?_
                · have z0 := cell_two B21.out 0 rfl
                  have z1 := cell_two B21.out 1 rfl
                  have zf0 := blk_frozen B21.out 0
                  have zf1 := blk_frozen B21.out 1
                  go_simp
                  have hne : g21 ≠ w.heap.size := Nat.ne_of_gt glt21
                  have q0 := (World.cell?_setCell_far (Ws33.setCell ⟨g21, 0, none⟩ (.int .i64 (totalW (listS s) flow true false l))) ⟨g21, 1, none⟩ ⟨w.heap.size, 0, none⟩ (.int .i64 (totalW (listS s) flow true true l)) hne).trans ((World.cell?_setCell_far Ws33 ⟨g21, 0, none⟩ ⟨w.heap.size, 0, none⟩ (.int .i64 (totalW (listS s) flow true false l)) hne).trans s0)
                  have q1 := (World.cell?_setCell_far (Ws33.setCell ⟨g21, 0, none⟩ (.int .i64 (totalW (listS s) flow true false l))) ⟨g21, 1, none⟩ ⟨w.heap.size, 1, none⟩ (.int .i64 (totalW (listS s) flow true true l)) hne).trans ((World.cell?_setCell_far Ws33 ⟨g21, 0, none⟩ ⟨w.heap.size, 1, none⟩ (.int .i64 (totalW (listS s) flow true false l)) hne).trans s1)
                  have N2 := Aside0.mk (below_set (j := 1) (v := .int .i64 (totalW (listS s) flow true true l)) (below_set (j := 0) (v := .int .i64 (totalW (listS s) flow true false l)) HB.out (Nat.le_of_lt glt21)) (Nat.le_of_lt glt21))
                  have NX := Aside0.mk (blk_put (blk_put B21.out 0 (.int .i64 (totalW (listS s) flow true false l)) rfl) 1 (.int .i64 (totalW (listS s) flow true true l)) rfl)
                  have NB20 := Aside0.mk (blk_set_ne (blk_set_ne B20.out (Nat.ne_of_gt gd2021) 0 (.int .i64 (totalW (listS s) flow true false l))) (Nat.ne_of_gt gd2021) 1 (.int .i64 (totalW (listS s) flow true true l)))
                  refine hK.out _ _ ⟨q0, q1⟩ (fun hHeld => ?_)
                  clear s0 s1 HB z0 z1 zf0 zf1 hne B20 B21
                  have s0 := q0
                  have s1 := q1
                  have HB := N2
                  have B20 := NB20
                  have B21 := NX
                  clear q0 q1 N2 NX NB20
                  generalize (Ws33.setCell ⟨g21, 0, none⟩ (.int .i64 (totalW (listS s) flow true false l))).setCell ⟨g21, 1, none⟩ (.int .i64 (totalW (listS s) flow true true l)) = Ws34 at *
                  clear hK K
                  try simp only [Act.put, List.setIfInBounds_toArray, List.set_cons_zero, List.set_cons_succ]
                  refine wpAnyH_done (by kernel_rfl) ?_ _
                  have z0 := cell_two B20.out 0 rfl
                  have z1 := cell_two B20.out 1 rfl
                  have z2 := cell_two B21.out 0 rfl
                  have z3 := cell_two B21.out 1 rfl
                  go_wp2_with (go_at_call 10; refine (awake_any _).mono ?_; rintro e Wz ⟨rfl, hb⟩; have HBz := Aside0.mk (bl_next HB.out hb); clear hb)
                  go_ret
                  exact ⟨rfl, HBz.out⟩
                exact AllReadyH.nil
              exact AllReadyH.nil
            exact AllReadyH.nil
          refine AllReadyH.cons (o := { dst := some 21, op := Op.alloc 45, type := 0, pos := "outright.go:175", after := #[], guard := none }) rfl (fun K hK => ?_) ?_
          · go_simp
            have NX := Aside0.mk (blk_new Wc30 (.cells #[.int .i64 0, .int .i64 0] 45))
            have glt21 := World.block_lt_of_cell? _ _ s0
            have gd2021 := blk_lt B20.out
            have q0 := cell_alloc_o (.cells #[.int .i64 0, .int .i64 0] 45) s0
            have q1 := cell_alloc_o (.cells #[.int .i64 0, .int .i64 0] 45) s1
            have N1 := Aside0.mk (Kd.R_alloc HS.out (.cells #[.int .i64 0, .int .i64 0] 45))
            have N2 := Aside0.mk (below_alloc HB.out (.cells #[.int .i64 0, .int .i64 0] 45))
            have NB20 := Aside0.mk (blk_alloc B20.out (.cells #[.int .i64 0, .int .i64 0] 45))
            refine hK.out _ _ ⟨q0, q1⟩ (fun hHeld => ?_)
            clear s0 s1 HB HS B20
            have s0 := q0
            have s1 := q1
            have HS := N1
            have HB := N2
            have B20 := NB20
            have B21 := NX
            clear q0 q1 N1 N2 NX NB20
            generalize Wc30.alloc (.cells #[.int .i64 0, .int .i64 0] 45) = Wa35 at *
            generalize Wc30.heap.size = g21 at *
            clear hK K
            try simp only [Act.put, List.setIfInBounds_toArray, List.set_cons_zero, List.set_cons_succ]
            refine wpAnyH_ready (rs := [7]) (by kernel_rfl) (by simp) ?_
            refine AllReadyH.cons (o := { dst := some 289, op := Op.call { callee := Callee.value (Operand.func 26), args := #[Operand.tmp 286, Operand.tmp 287, Operand.const (Value.bool true), Operand.tmp 288], argTypes := #[24, 27, 4, 3] }, type := 45, pos := "outright.go:175", after := #[{ on := 4, ground := Ground.data }, { on := 5, ground := Ground.data }, { on := 6, ground := Ground.data }, { on := 3, ground := Ground.chain }], guard := none }) rfl (fun K hK => ?_) ?_
            · go_simp
              refine (sum_any _ _ true _ _ _ _ _ _ _ (Kd.C_below HR.out HB.out) hc HP.out (Kd.R_reads' HS.out).2.2 (Kd.R_reads' HS.out).2.1 HWS.out).mono ?_
              rintro e Wc36 ⟨rfl, hb⟩
              have q0 := (hb.cell (World.block_lt_of_cell? _ _ s0)).trans s0
              have q1 := (hb.cell (World.block_lt_of_cell? _ _ s1)).trans s1
              have N1 := Aside0.mk (Kd.R_below HS.out hb)
              have N2 := Aside0.mk (bl_next HB.out hb)
              have NB20 := Aside0.mk (blk_below B20.out hb)
              have NB21 := Aside0.mk (blk_below B21.out hb)
              refine hK.out _ _ ⟨q0, q1⟩ (fun hHeld => ?_)
              clear hb s0 s1 HS HB B20 B21
              have s0 := q0
              have s1 := q1
              have HS := N1
              have HB := N2
              have B20 := NB20
              have B21 := NB21
              clear q0 q1 N1 N2 NB20 NB21
              clear hK K
              try simp only [Act.put, List.setIfInBounds_toArray, List.set_cons_zero, List.set_cons_succ]
              refine wpAnyH_ready (rs := [10]) (by kernel_rfl) (by simp) ?_
              refine AllReadyH.cons (o := { dst := none, op := Op.store 45 (Operand.tmp 20) (Operand.tmp 285), type := 0, pos := "outright.go:175", after := #[{ on := 8, ground := Ground.data }, { on := 3, ground := Ground.data }, { on := 7, ground := Ground.chain }, { on := 0, ground := Ground.phase }, { on := 1, ground := Ground.phase }, { on := 2, ground := Ground.phase }, { on := 3, ground := Ground.phase }, { on := 4, ground := Ground.textOnly Departure.lateStores }, { on := 5, ground := Ground.textOnly Departure.lateStores }, { on := 6, ground := Ground.textOnly Departure.lateStores }, { on := 7, ground := Ground.textOnly Departure.lateStoresUnsure }, { on := 8, ground := Ground.phase }, { on := 9, ground := Ground.phase }], guard := none }) rfl (fun K hK => ?_) ?_
              · have z0 := cell_two B20.out 0 rfl
                have z1 := cell_two B20.out 1 rfl
                have zf0 := blk_frozen B20.out 0
                have zf1 := blk_frozen B20.out 1
                go_simp
                have hne : g20 ≠ w.heap.size := Nat.ne_of_gt glt20
                have q0 := (World.cell?_setCell_far (Wc36.setCell ⟨g20, 0, none⟩ (.int .i64 (totalW (listS s) flow false false l))) ⟨g20, 1, none⟩ ⟨w.heap.size, 0, none⟩ (.int .i64 (totalW (listS s) flow false true l)) hne).trans ((World.cell?_setCell_far Wc36 ⟨g20, 0, none⟩ ⟨w.heap.size, 0, none⟩ (.int .i64 (totalW (listS s) flow false false l)) hne).trans s0)
                have q1 := (World.cell?_setCell_far (Wc36.setCell ⟨g20, 0, none⟩ (.int .i64 (totalW (listS s) flow false false l))) ⟨g20, 1, none⟩ ⟨w.heap.size, 1, none⟩ (.int .i64 (totalW (listS s) flow false true l)) hne).trans ((World.cell?_setCell_far Wc36 ⟨g20, 0, none⟩ ⟨w.heap.size, 1, none⟩ (.int .i64 (totalW (listS s) flow false false l)) hne).trans s1)
                have N2 := Aside0.mk (below_set (j := 1) (v := .int .i64 (totalW (listS s) flow false true l)) (below_set (j := 0) (v := .int .i64 (totalW (listS s) flow false false l)) HB.out (Nat.le_of_lt glt20)) (Nat.le_of_lt glt20))
                have NX := Aside0.mk (blk_put (blk_put B20.out 0 (.int .i64 (totalW (listS s) flow false false l)) rfl) 1 (.int .i64 (totalW (listS s) flow false true l)) rfl)
                have NB21 := Aside0.mk (blk_set_ne (blk_set_ne B21.out (Nat.ne_of_lt gd2021) 0 (.int .i64 (totalW (listS s) flow false false l))) (Nat.ne_of_lt gd2021) 1 (.int .i64 (totalW (listS s) flow false true l)))
                refine hK.out _ _ ⟨q0, q1⟩ (fun hHeld => ?_)
                clear s0 s1 HB z0 z1 zf0 zf1 hne HS B20 B21
                have s0 := q0
                have s1 := q1
                have HB := N2
                have B21 := NB21
                have B20 := NX
                clear q0 q1 N2 NX NB21
                generalize (Wc36.setCell ⟨g20, 0, none⟩ (.int .i64 (totalW (listS s) flow false false l))).setCell ⟨g20, 1, none⟩ (.int .i64 (totalW (listS s) flow false true l)) = Ws37 at *
                clear hK K
                try simp only [Act.put, List.setIfInBounds_toArray, List.set_cons_zero, List.set_cons_succ]
                refine wpAnyH_ready (rs := [11]) (by kernel_rfl) (by simp) ?_
                refine AllReadyH.cons (o := { dst := none, op := Op.store 45 (Operand.tmp 21) (Operand.tmp 289), type := 0, pos := "outright.go:175", after := #[{ on := 9, ground := Ground.data }, { on := 7, ground := Ground.data }, { on := 10, ground := Ground.chain }, { on := 0, ground := Ground.phase }, { on := 1, ground := Ground.phase }, { on := 2, ground := Ground.phase }, { on := 3, ground := Ground.phase }, { on := 4, ground := Ground.phase }, { on := 5, ground := Ground.phase }, { on := 6, ground := Ground.phase }, { on := 7, ground := Ground.phase }, { on := 8, ground := Ground.phase }, { on := 9, ground := Ground.phase }, { on := 10, ground := Ground.phase }], guard := none }) rfl (fun K hK => ?_) ?_
                · have z0 := cell_two B21.out 0 rfl
                  have z1 := cell_two B21.out 1 rfl
                  have zf0 := blk_frozen B21.out 0
                  have zf1 := blk_frozen B21.out 1
                  go_simp
                  have hne : g21 ≠ w.heap.size := Nat.ne_of_gt glt21
                  have q0 := (World.cell?_setCell_far (Ws37.setCell ⟨g21, 0, none⟩ (.int .i64 (totalW (listS s) flow true false l))) ⟨g21, 1, none⟩ ⟨w.heap.size, 0, none⟩ (.int .i64 (totalW (listS s) flow true true l)) hne).trans ((World.cell?_setCell_far Ws37 ⟨g21, 0, none⟩ ⟨w.heap.size, 0, none⟩ (.int .i64 (totalW (listS s) flow true false l)) hne).trans s0)
                  have q1 := (World.cell?_setCell_far (Ws37.setCell ⟨g21, 0, none⟩ (.int .i64 (totalW (listS s) flow true false l))) ⟨g21, 1, none⟩ ⟨w.heap.size, 1, none⟩ (.int .i64 (totalW (listS s) flow true true l)) hne).trans ((World.cell?_setCell_far Ws37 ⟨g21, 0, none⟩ ⟨w.heap.size, 1, none⟩ (.int .i64 (totalW (listS s) flow true false l)) hne).trans s1)
                  have N2 := Aside0.mk (below_set (j := 1) (v := .int .i64 (totalW (listS s) flow true true l)) (below_set (j := 0) (v := .int .i64 (totalW (listS s) flow true false l)) HB.out (Nat.le_of_lt glt21)) (Nat.le_of_lt glt21))
                  have NX := Aside0.mk (blk_put (blk_put B21.out 0 (.int .i64 (totalW (listS s) flow true false l)) rfl) 1 (.int .i64 (totalW (listS s) flow true true l)) rfl)
                  have NB20 := Aside0.mk (blk_set_ne (blk_set_ne B20.out (Nat.ne_of_gt gd2021) 0 (.int .i64 (totalW (listS s) flow true false l))) (Nat.ne_of_gt gd2021) 1 (.int .i64 (totalW (listS s) flow true true l)))
                  refine hK.out _ _ ⟨q0, q1⟩ (fun hHeld => ?_)
                  clear s0 s1 HB z0 z1 zf0 zf1 hne B20 B21
                  have s0 := q0
                  have s1 := q1
                  have HB := N2
                  have B20 := NB20
                  have B21 := NX
                  clear q0 q1 N2 NX NB20
                  generalize (Ws37.setCell ⟨g21, 0, none⟩ (.int .i64 (totalW (listS s) flow true false l))).setCell ⟨g21, 1, none⟩ (.int .i64 (totalW (listS s) flow true true l)) = Ws38 at *
                  clear hK K
                  try simp only [Act.put, List.setIfInBounds_toArray, List.set_cons_zero, List.set_cons_succ]
                  refine wpAnyH_done (by kernel_rfl) ?_ _
                  have z0 := cell_two B20.out 0 rfl
                  have z1 := cell_two B20.out 1 rfl
                  have z2 := cell_two B21.out 0 rfl
                  have z3 := cell_two B21.out 1 rfl
                  go_wp2_with (go_at_call 10; refine (awake_any _).mono ?_; rintro e Wz ⟨rfl, hb⟩; have HBz := Aside0.mk (bl_next HB.out hb); clear hb)
                  go_ret
                  exact ⟨rfl, HBz.out⟩
                exact AllReadyH.nil
              exact AllReadyH.nil
            exact AllReadyH.nil
          exact AllReadyH.nil
        refine AllReadyH.cons (o := { dst := some 21, op := Op.alloc 45, type := 0, pos := "outright.go:175", after := #[], guard := none }) rfl (fun K hK => ?_) ?_
        · go_simp
          have NX := Aside0.mk (blk_new Wa29 (.cells #[.int .i64 0, .int .i64 0] 45))
          have glt21 := World.block_lt_of_cell? _ _ s0
          have gd2021 := blk_lt B20.out
          have q0 := cell_alloc_o (.cells #[.int .i64 0, .int .i64 0] 45) s0
          have q1 := cell_alloc_o (.cells #[.int .i64 0, .int .i64 0] 45) s1
          have N1 := Aside0.mk (Kd.R_alloc HS.out (.cells #[.int .i64 0, .int .i64 0] 45))
          have N2 := Aside0.mk (below_alloc HB.out (.cells #[.int .i64 0, .int .i64 0] 45))
          have NB20 := Aside0.mk (blk_alloc B20.out (.cells #[.int .i64 0, .int .i64 0] 45))
          refine hK.out _ _ ⟨q0, q1⟩ (fun hHeld => ?_)
          clear s0 s1 HB HS B20
          have s0 := q0
          have s1 := q1
          have HS := N1
          have HB := N2
          have B20 := NB20
          have B21 := NX
          clear q0 q1 N1 N2 NX NB20
          generalize Wa29.alloc (.cells #[.int .i64 0, .int .i64 0] 45) = Wa39 at *
          generalize Wa29.heap.size = g21 at *
          clear hK K
          try simp only [Act.put, List.setIfInBounds_toArray, List.set_cons_zero, List.set_cons_succ]
          refine wpAnyH_ready (rs := [3]) (by kernel_rfl) (by simp) ?_
          refine AllReadyH.cons (o := { dst := some 285, op := Op.call { callee := Callee.value (Operand.func 26), args := #[Operand.tmp 282, Operand.tmp 283, Operand.const (Value.bool false), Operand.tmp 284], argTypes := #[24, 27, 4, 3] }, type := 45, pos := "outright.go:175", after := #[{ on := 0, ground := Ground.data }, { on := 1, ground := Ground.data }, { on := 2, ground := Ground.data }], guard := none }) rfl (fun K hK => ?_) ?_
          · go_simp
            refine (sum_any _ _ false _ _ _ _ _ _ _ (Kd.C_below HR.out HB.out) hc HP.out (Kd.R_reads' HS.out).2.2 (Kd.R_reads' HS.out).2.1 HWS.out).mono ?_
            rintro e Wc40 ⟨rfl, hb⟩
            have q0 := (hb.cell (World.block_lt_of_cell? _ _ s0)).trans s0
            have q1 := (hb.cell (World.block_lt_of_cell? _ _ s1)).trans s1
            have N1 := Aside0.mk (Kd.R_below HS.out hb)
            have N2 := Aside0.mk (bl_next HB.out hb)
            have NB20 := Aside0.mk (blk_below B20.out hb)
            have NB21 := Aside0.mk (blk_below B21.out hb)
            refine hK.out _ _ ⟨q0, q1⟩ (fun hHeld => ?_)
            clear hb s0 s1 HS HB B20 B21
            have s0 := q0
            have s1 := q1
            have HS := N1
            have HB := N2
            have B20 := NB20
            have B21 := NB21
            clear q0 q1 N1 N2 NB20 NB21
            clear hK K
            try simp only [Act.put, List.setIfInBounds_toArray, List.set_cons_zero, List.set_cons_succ]
            refine wpAnyH_ready (rs := [7]) (by kernel_rfl) (by simp) ?_
            refine AllReadyH.cons (o := { dst := some 289, op := Op.call { callee := Callee.value (Operand.func 26), args := #[Operand.tmp 286, Operand.tmp 287, Operand.const (Value.bool true), Operand.tmp 288], argTypes := #[24, 27, 4, 3] }, type := 45, pos := "outright.go:175", after := #[{ on := 4, ground := Ground.data }, { on := 5, ground := Ground.data }, { on := 6, ground := Ground.data }, { on := 3, ground := Ground.chain }], guard := none }) rfl (fun K hK => ?_) ?_
            · go_simp
              refine (sum_any _ _ true _ _ _ _ _ _ _ (Kd.C_below HR.out HB.out) hc HP.out (Kd.R_reads' HS.out).2.2 (Kd.R_reads' HS.out).2.1 HWS.out).mono ?_
              rintro e Wc41 ⟨rfl, hb⟩
              have q0 := (hb.cell (World.block_lt_of_cell? _ _ s0)).trans s0
              have q1 := (hb.cell (World.block_lt_of_cell? _ _ s1)).trans s1
              have N1 := Aside0.mk (Kd.R_below HS.out hb)
              have N2 := Aside0.mk (bl_next HB.out hb)
              have NB20 := Aside0.mk (blk_below B20.out hb)
              have NB21 := Aside0.mk (blk_below B21.out hb)
              refine hK.out _ _ ⟨q0, q1⟩ (fun hHeld => ?_)
              clear hb s0 s1 HS HB B20 B21
              have s0 := q0
              have s1 := q1
              have HS := N1
              have HB := N2
              have B20 := NB20
              have B21 := NB21
              clear q0 q1 N1 N2 NB20 NB21
              clear hK K
              try simp only [Act.put, List.setIfInBounds_toArray, List.set_cons_zero, List.set_cons_succ]
              refine wpAnyH_ready (rs := [10]) (by kernel_rfl) (by simp) ?_
              refine AllReadyH.cons (o := { dst := none, op := Op.store 45 (Operand.tmp 20) (Operand.tmp 285), type := 0, pos := "outright.go:175", after := #[{ on := 8, ground := Ground.data }, { on := 3, ground := Ground.data }, { on := 7, ground := Ground.chain }, { on := 0, ground := Ground.phase }, { on := 1, ground := Ground.phase }, { on := 2, ground := Ground.phase }, { on := 3, ground := Ground.phase }, { on := 4, ground := Ground.textOnly Departure.lateStores }, { on := 5, ground := Ground.textOnly Departure.lateStores }, { on := 6, ground := Ground.textOnly Departure.lateStores }, { on := 7, ground := Ground.textOnly Departure.lateStoresUnsure }, { on := 8, ground := Ground.phase }, { on := 9, ground := Ground.phase }], guard := none }) rfl (fun K hK => ?_) ?_
              · have z0 := cell_two B20.out 0 rfl
                have z1 := cell_two B20.out 1 rfl
                have zf0 := blk_frozen B20.out 0
                have zf1 := blk_frozen B20.out 1
                go_simp
                have hne : g20 ≠ w.heap.size := Nat.ne_of_gt glt20
                have q0 := (World.cell?_setCell_far (Wc41.setCell ⟨g20, 0, none⟩ (.int .i64 (totalW (listS s) flow false false l))) ⟨g20, 1, none⟩ ⟨w.heap.size, 0, none⟩ (.int .i64 (totalW (listS s) flow false true l)) hne).trans ((World.cell?_setCell_far Wc41 ⟨g20, 0, none⟩ ⟨w.heap.size, 0, none⟩ (.int .i64 (totalW (listS s) flow false false l)) hne).trans s0)
                have q1 := (World.cell?_setCell_far (Wc41.setCell ⟨g20, 0, none⟩ (.int .i64 (totalW (listS s) flow false false l))) ⟨g20, 1, none⟩ ⟨w.heap.size, 1, none⟩ (.int .i64 (totalW (listS s) flow false true l)) hne).trans ((World.cell?_setCell_far Wc41 ⟨g20, 0, none⟩ ⟨w.heap.size, 1, none⟩ (.int .i64 (totalW (listS s) flow false false l)) hne).trans s1)
                have N2 := Aside0.mk (below_set (j := 1) (v := .int .i64 (totalW (listS s) flow false true l)) (below_set (j := 0) (v := .int .i64 (totalW (listS s) flow false false l)) HB.out (Nat.le_of_lt glt20)) (Nat.le_of_lt glt20))
                have NX := Aside0.mk (blk_put (blk_put B20.out 0 (.int .i64 (totalW (listS s) flow false false l)) rfl) 1 (.int .i64 (totalW (listS s) flow false true l)) rfl)
                have NB21 := Aside0.mk (blk_set_ne (blk_set_ne B21.out (Nat.ne_of_lt gd2021) 0 (.int .i64 (totalW (listS s) flow false false l))) (Nat.ne_of_lt gd2021) 1 (.int .i64 (totalW (listS s) flow false true l)))
                refine hK.out _ _ ⟨q0, q1⟩ (fun hHeld => ?_)
                clear s0 s1 HB z0 z1 zf0 zf1 hne HS B20 B21
                have s0 := q0
                have s1 := q1
                have HB := N2
                have B21 := NB21
                have B20 := NX
                clear q0 q1 N2 NX NB21
                generalize (Wc41.setCell ⟨g20, 0, none⟩ (.int .i64 (totalW (listS s) flow false false l))).setCell ⟨g20, 1, none⟩ (.int .i64 (totalW (listS s) flow false true l)) = Ws42 at *
                clear hK K
                try simp only [Act.put, List.setIfInBounds_toArray, List.set_cons_zero, List.set_cons_succ]
                refine wpAnyH_ready (rs := [11]) (by kernel_rfl) (by simp) ?_
                refine AllReadyH.cons (o := { dst := none, op := Op.store 45 (Operand.tmp 21) (Operand.tmp 289), type := 0, pos := "outright.go:175", after := #[{ on := 9, ground := Ground.data }, { on := 7, ground := Ground.data }, { on := 10, ground := Ground.chain }, { on := 0, ground := Ground.phase }, { on := 1, ground := Ground.phase }, { on := 2, ground := Ground.phase }, { on := 3, ground := Ground.phase }, { on := 4, ground := Ground.phase }, { on := 5, ground := Ground.phase }, { on := 6, ground := Ground.phase }, { on := 7, ground := Ground.phase }, { on := 8, ground := Ground.phase }, { on := 9, ground := Ground.phase }, { on := 10, ground := Ground.phase }], guard := none }) rfl (fun K hK => ?_) ?_
                · have z0 := cell_two B21.out 0 rfl
                  have z1 := cell_two B21.out 1 rfl
                  have zf0 := blk_frozen B21.out 0
                  have zf1 := blk_frozen B21.out 1
                  go_simp
                  have hne : g21 ≠ w.heap.size := Nat.ne_of_gt glt21
                  have q0 := (World.cell?_setCell_far (Ws42.setCell ⟨g21, 0, none⟩ (.int .i64 (totalW (listS s) flow true false l))) ⟨g21, 1, none⟩ ⟨w.heap.size, 0, none⟩ (.int .i64 (totalW (listS s) flow true true l)) hne).trans ((World.cell?_setCell_far Ws42 ⟨g21, 0, none⟩ ⟨w.heap.size, 0, none⟩ (.int .i64 (totalW (listS s) flow true false l)) hne).trans s0)
                  have q1 := (World.cell?_setCell_far (Ws42.setCell ⟨g21, 0, none⟩ (.int .i64 (totalW (listS s) flow true false l))) ⟨g21, 1, none⟩ ⟨w.heap.size, 1, none⟩ (.int .i64 (totalW (listS s) flow true true l)) hne).trans ((World.cell?_setCell_far Ws42 ⟨g21, 0, none⟩ ⟨w.heap.size, 1, none⟩ (.int .i64 (totalW (listS s) flow true false l)) hne).trans s1)
                  have N2 := Aside0.mk (below_set (j := 1) (v := .int .i64 (totalW (listS s) flow true true l)) (below_set (j := 0) (v := .int .i64 (totalW (listS s) flow true false l)) HB.out (Nat.le_of_lt glt21)) (Nat.le_of_lt glt21))
                  have NX := Aside0.mk (blk_put (blk_put B21.out 0 (.int .i64 (totalW (listS s) flow true false l)) rfl) 1 (.int .i64 (totalW (listS s) flow true true l)) rfl)
                  have NB20 := Aside0.mk (blk_set_ne (blk_set_ne B20.out (Nat.ne_of_gt gd2021) 0 (.int .i64 (totalW (listS s) flow true false l))) (Nat.ne_of_gt gd2021) 1 (.int .i64 (totalW (listS s) flow true true l)))
                  refine hK.out _ _ ⟨q0, q1⟩ (fun hHeld => ?_)
                  clear s0 s1 HB z0 z1 zf0 zf1 hne B20 B21
                  have s0 := q0
                  have s1 := q1
                  have HB := N2
                  have B20 := NB20
                  have B21 := NX
                  clear q0 q1 N2 NX NB20
                  generalize (Ws42.setCell ⟨g21, 0, none⟩ (.int .i64 (totalW (listS s) flow true false l))).setCell ⟨g21, 1, none⟩ (.int .i64 (totalW (listS s) flow true true l)) = Ws43 at *
                  clear hK K
                  try simp only [Act.put, List.setIfInBounds_toArray, List.set_cons_zero, List.set_cons_succ]
                  refine wpAnyH_done (by kernel_rfl) ?_ _
                  have z0 := cell_two B20.out 0 rfl
                  have z1 := cell_two B20.out 1 rfl
                  have z2 := cell_two B21.out 0 rfl
                  have z3 := cell_two B21.out 1 rfl
                  go_wp2_with (go_at_call 10; refine (awake_any _).mono ?_; rintro e Wz ⟨rfl, hb⟩; have HBz := Aside0.mk (bl_next HB.out hb); clear hb)
                  go_ret
                  exact ⟨rfl, HBz.out⟩
                exact AllReadyH.nil
              exact AllReadyH.nil
            exact AllReadyH.nil
          exact AllReadyH.nil
        exact AllReadyH.nil
      refine AllReadyH.cons (o := { dst := some 21, op := Op.alloc 45, type := 0, pos := "outright.go:175", after := #[], guard := none }) rfl (fun K hK => ?_) ?_
      · go_simp
        have NX := Aside0.mk (blk_new Wd (.cells #[.int .i64 0, .int .i64 0] 45))
        have glt21 := World.block_lt_of_cell? _ _ s0
        have q0 := cell_alloc_o (.cells #[.int .i64 0, .int .i64 0] 45) s0
        have q1 := cell_alloc_o (.cells #[.int .i64 0, .int .i64 0] 45) s1
        have N1 := Aside0.mk (Kd.R_alloc HS.out (.cells #[.int .i64 0, .int .i64 0] 45))
        have N2 := Aside0.mk (below_alloc HB.out (.cells #[.int .i64 0, .int .i64 0] 45))
        refine hK.out _ _ ⟨q0, q1⟩ (fun hHeld => ?_)
        clear s0 s1 HB HS
        have s0 := q0
        have s1 := q1
        have HS := N1
        have HB := N2
        have B21 := NX
        clear q0 q1 N1 N2 NX
        generalize Wd.alloc (.cells #[.int .i64 0, .int .i64 0] 45) = Wa44 at *
        generalize Wd.heap.size = g21 at *
        clear hK K
        try simp only [Act.put, List.setIfInBounds_toArray, List.set_cons_zero, List.set_cons_succ]
        refine wpAnyH_ready (rs := [3, 8]) (by kernel_rfl) (by simp) ?_
        refine AllReadyH.cons (o := { dst := some 285, op := Op.call { callee := Callee.value (Operand.func 26), args := #[Operand.tmp 282, Operand.tmp 283, Operand.const (Value.bool false), Operand.tmp 284], argTypes := #[24, 27, 4, 3] }, type := 45, pos := "outright.go:175", after := #[{ on := 0, ground := Ground.data }, { on := 1, ground := Ground.data }, { on := 2, ground := Ground.data }], guard := none }) rfl (fun K hK => ?_) ?_
        · go_simp
          refine (sum_any _ _ false _ _ _ _ _ _ _ (Kd.C_below HR.out HB.out) hc HP.out (Kd.R_reads' HS.out).2.2 (Kd.R_reads' HS.out).2.1 HWS.out).mono ?_
          rintro e Wc45 ⟨rfl, hb⟩
          have q0 := (hb.cell (World.block_lt_of_cell? _ _ s0)).trans s0
          have q1 := (hb.cell (World.block_lt_of_cell? _ _ s1)).trans s1
          have N1 := Aside0.mk (Kd.R_below HS.out hb)
          have N2 := Aside0.mk (bl_next HB.out hb)
          have NB21 := Aside0.mk (blk_below B21.out hb)
          refine hK.out _ _ ⟨q0, q1⟩ (fun hHeld => ?_)
          clear hb s0 s1 HS HB B21
          have s0 := q0
          have s1 := q1
          have HS := N1
          have HB := N2
          have B21 := NB21
          clear q0 q1 N1 N2 NB21
          clear hK K
          try simp only [Act.put, List.setIfInBounds_toArray, List.set_cons_zero, List.set_cons_succ]
          refine wpAnyH_ready (rs := [7, 8]) (by kernel_rfl) (by simp) ?_
          refine AllReadyH.cons (o := { dst := some 289, op := Op.call { callee := Callee.value (Operand.func 26), args := #[Operand.tmp 286, Operand.tmp 287, Operand.const (Value.bool true), Operand.tmp 288], argTypes := #[24, 27, 4, 3] }, type := 45, pos := "outright.go:175", after := #[{ on := 4, ground := Ground.data }, { on := 5, ground := Ground.data }, { on := 6, ground := Ground.data }, { on := 3, ground := Ground.chain }], guard := none }) rfl (fun K hK => ?_) ?_
          · go_simp
            refine (sum_any _ _ true _ _ _ _ _ _ _ (Kd.C_below HR.out HB.out) hc HP.out (Kd.R_reads' HS.out).2.2 (Kd.R_reads' HS.out).2.1 HWS.out).mono ?_
            rintro e Wc46 ⟨rfl, hb⟩
            have q0 := (hb.cell (World.block_lt_of_cell? _ _ s0)).trans s0
            have q1 := (hb.cell (World.block_lt_of_cell? _ _ s1)).trans s1
            have N1 := Aside0.mk (Kd.R_below HS.out hb)
            have N2 := Aside0.mk (bl_next HB.out hb)
            have NB21 := Aside0.mk (blk_below B21.out hb)
            refine hK.out _ _ ⟨q0, q1⟩ (fun hHeld => ?_)
            clear hb s0 s1 HS HB B21
            have s0 := q0
            have s1 := q1
            have HS := N1
            have HB := N2
            have B21 := NB21
            clear q0 q1 N1 N2 NB21
            clear hK K
            try simp only [Act.put, List.setIfInBounds_toArray, List.set_cons_zero, List.set_cons_succ]
            refine wpAnyH_ready (rs := [8]) (by kernel_rfl) (by simp) ?_
            refine AllReadyH.cons (o := { dst := some 20, op := Op.alloc 45, type := 0, pos := "outright.go:175", after := #[], guard := none }) rfl (fun K hK => ?_) ?_
            · go_simp
              have NX := Aside0.mk (blk_new Wc46 (.cells #[.int .i64 0, .int .i64 0] 45))
              have glt20 := World.block_lt_of_cell? _ _ s0
              have gd2120 := blk_lt B21.out
              have q0 := cell_alloc_o (.cells #[.int .i64 0, .int .i64 0] 45) s0
              have q1 := cell_alloc_o (.cells #[.int .i64 0, .int .i64 0] 45) s1
              have N1 := Aside0.mk (Kd.R_alloc HS.out (.cells #[.int .i64 0, .int .i64 0] 45))
              have N2 := Aside0.mk (below_alloc HB.out (.cells #[.int .i64 0, .int .i64 0] 45))
              have NB21 := Aside0.mk (blk_alloc B21.out (.cells #[.int .i64 0, .int .i64 0] 45))
              refine hK.out _ _ ⟨q0, q1⟩ (fun hHeld => ?_)
              clear s0 s1 HB HS B21
              have s0 := q0
              have s1 := q1
              have HS := N1
              have HB := N2
              have B21 := NB21
              have B20 := NX
              clear q0 q1 N1 N2 NX NB21
              generalize Wc46.alloc (.cells #[.int .i64 0, .int .i64 0] 45) = Wa47 at *
              generalize Wc46.heap.size = g20 at *
              clear hK K
              try simp only [Act.put, List.setIfInBounds_toArray, List.set_cons_zero, List.set_cons_succ]
              refine wpAnyH_ready (rs := [10]) (by kernel_rfl) (by simp) ?_
              refine AllReadyH.cons (o := { dst := none, op := Op.store 45 (Operand.tmp 20) (Operand.tmp 285), type := 0, pos := "outright.go:175", after := #[{ on := 8, ground := Ground.data }, { on := 3, ground := Ground.data }, { on := 7, ground := Ground.chain }, { on := 0, ground := Ground.phase }, { on := 1, ground := Ground.phase }, { on := 2, ground := Ground.phase }, { on := 3, ground := Ground.phase }, { on := 4, ground := Ground.textOnly Departure.lateStores }, { on := 5, ground := Ground.textOnly Departure.lateStores }, { on := 6, ground := Ground.textOnly Departure.lateStores }, { on := 7, ground := Ground.textOnly Departure.lateStoresUnsure }, { on := 8, ground := Ground.phase }, { on := 9, ground := Ground.phase }], guard := none }) rfl (fun K hK => ?_) ?_
              · have z0 := cell_two B20.out 0 rfl
                have z1 := cell_two B20.out 1 rfl
                have zf0 := blk_frozen B20.out 0
                have zf1 := blk_frozen B20.out 1
                go_simp
                have hne : g20 ≠ w.heap.size := Nat.ne_of_gt glt20
                have q0 := (World.cell?_setCell_far (Wa47.setCell ⟨g20, 0, none⟩ (.int .i64 (totalW (listS s) flow false false l))) ⟨g20, 1, none⟩ ⟨w.heap.size, 0, none⟩ (.int .i64 (totalW (listS s) flow false true l)) hne).trans ((World.cell?_setCell_far Wa47 ⟨g20, 0, none⟩ ⟨w.heap.size, 0, none⟩ (.int .i64 (totalW (listS s) flow false false l)) hne).trans s0)
                have q1 := (World.cell?_setCell_far (Wa47.setCell ⟨g20, 0, none⟩ (.int .i64 (totalW (listS s) flow false false l))) ⟨g20, 1, none⟩ ⟨w.heap.size, 1, none⟩ (.int .i64 (totalW (listS s) flow false true l)) hne).trans ((World.cell?_setCell_far Wa47 ⟨g20, 0, none⟩ ⟨w.heap.size, 1, none⟩ (.int .i64 (totalW (listS s) flow false false l)) hne).trans s1)
                have N2 := Aside0.mk (below_set (j := 1) (v := .int .i64 (totalW (listS s) flow false true l)) (below_set (j := 0) (v := .int .i64 (totalW (listS s) flow false false l)) HB.out (Nat.le_of_lt glt20)) (Nat.le_of_lt glt20))
                have NX := Aside0.mk (blk_put (blk_put B20.out 0 (.int .i64 (totalW (listS s) flow false false l)) rfl) 1 (.int .i64 (totalW (listS s) flow false true l)) rfl)
                have NB21 := Aside0.mk (blk_set_ne (blk_set_ne B21.out (Nat.ne_of_gt gd2120) 0 (.int .i64 (totalW (listS s) flow false false l))) (Nat.ne_of_gt gd2120) 1 (.int .i64 (totalW (listS s) flow false true l)))
                refine hK.out _ _ ⟨q0, q1⟩ (fun hHeld => ?_)
                clear s0 s1 HB z0 z1 zf0 zf1 hne HS B21 B20
                have s0 := q0
                have s1 := q1
                have HB := N2
                have B21 := NB21
                have B20 := NX
                clear q0 q1 N2 NX NB21
                generalize (Wa47.setCell ⟨g20, 0, none⟩ (.int .i64 (totalW (listS s) flow false false l))).setCell ⟨g20, 1, none⟩ (.int .i64 (totalW (listS s) flow false true l)) = Ws48 at *
                clear hK K
                try simp only [Act.put, List.setIfInBounds_toArray, List.set_cons_zero, List.set_cons_succ]
                refine wpAnyH_ready (rs := [11]) (by kernel_rfl) (by simp) ?_
                refine AllReadyH.cons (o := { dst := none, op := Op.store 45 (Operand.tmp 21) (Operand.tmp 289), type := 0, pos := "outright.go:175", after := #[{ on := 9, ground := Ground.data }, { on := 7, ground := Ground.data }, { on := 10, ground := Ground.chain }, { on := 0, ground := Ground.phase }, { on := 1, ground := Ground.phase }, { on := 2, ground := Ground.phase }, { on := 3, ground := Ground.phase }, { on := 4, ground := Ground.phase }, { on := 5, ground := Ground.phase }, { on := 6, ground := Ground.phase }, { on := 7, ground := Ground.phase }, { on := 8, ground := Ground.phase }, { on := 9, ground := Ground.phase }, { on := 10, ground := Ground.phase }], guard := none }) rfl (fun K hK => ?_) ?_
                · have z0 := cell_two B21.out 0 rfl
                  have z1 := cell_two B21.out 1 rfl
                  have zf0 := blk_frozen B21.out 0
                  have zf1 := blk_frozen B21.out 1
                  go_simp
                  have hne : g21 ≠ w.heap.size := Nat.ne_of_gt glt21
                  have q0 := (World.cell?_setCell_far (Ws48.setCell ⟨g21, 0, none⟩ (.int .i64 (totalW (listS s) flow true false l))) ⟨g21, 1, none⟩ ⟨w.heap.size, 0, none⟩ (.int .i64 (totalW (listS s) flow true true l)) hne).trans ((World.cell?_setCell_far Ws48 ⟨g21, 0, none⟩ ⟨w.heap.size, 0, none⟩ (.int .i64 (totalW (listS s) flow true false l)) hne).trans s0)
                  have q1 := (World.cell?_setCell_far (Ws48.setCell ⟨g21, 0, none⟩ (.int .i64 (totalW (listS s) flow true false l))) ⟨g21, 1, none⟩ ⟨w.heap.size, 1, none⟩ (.int .i64 (totalW (listS s) flow true true l)) hne).trans ((World.cell?_setCell_far Ws48 ⟨g21, 0, none⟩ ⟨w.heap.size, 1, none⟩ (.int .i64 (totalW (listS s) flow true false l)) hne).trans s1)
                  have N2 := Aside0.mk (below_set (j := 1) (v := .int .i64 (totalW (listS s) flow true true l)) (below_set (j := 0) (v := .int .i64 (totalW (listS s) flow true false l)) HB.out (Nat.le_of_lt glt21)) (Nat.le_of_lt glt21))
                  have NX := Aside0.mk (blk_put (blk_put B21.out 0 (.int .i64 (totalW (listS s) flow true false l)) rfl) 1 (.int .i64 (totalW (listS s) flow true true l)) rfl)
                  have NB20 := Aside0.mk (blk_set_ne (blk_set_ne B20.out (Nat.ne_of_lt gd2120) 0 (.int .i64 (totalW (listS s) flow true false l))) (Nat.ne_of_lt gd2120) 1 (.int .i64 (totalW (listS s) flow true true l)))
                  refine hK.out _ _ ⟨q0, q1⟩ (fun hHeld => ?_)
                  clear s0 s1 HB z0 z1 zf0 zf1 hne B21 B20
                  have s0 := q0
                  have s1 := q1
                  have HB := N2
                  have B20 := NB20
                  have B21 := NX
                  clear q0 q1 N2 NX NB20
                  generalize (Ws48.setCell ⟨g21, 0, none⟩ (.int .i64 (totalW (listS s) flow true false l))).setCell ⟨g21, 1, none⟩ (.int .i64 (totalW (listS s) flow true true l)) = Ws49 at *
                  clear hK K
                  try simp only [Act.put, List.setIfInBounds_toArray, List.set_cons_zero, List.set_cons_succ]
                  refine wpAnyH_done (by kernel_rfl) ?_ _
                  have z0 := cell_two B20.out 0 rfl
                  have z1 := cell_two B20.out 1 rfl
                  have z2 := cell_two B21.out 0 rfl
                  have z3 := cell_two B21.out 1 rfl
                  go_wp2_with (go_at_call 10; refine (awake_any _).mono ?_; rintro e Wz ⟨rfl, hb⟩; have HBz := Aside0.mk (bl_next HB.out hb); clear hb)
                  go_ret
                  exact ⟨rfl, HBz.out⟩
                exact AllReadyH.nil
              exact AllReadyH.nil
            exact AllReadyH.nil
          refine AllReadyH.cons (o := { dst := some 20, op := Op.alloc 45, type := 0, pos := "outright.go:175", after := #[], guard := none }) rfl (fun K hK => ?_) ?_
          · go_simp
            have NX := Aside0.mk (blk_new Wc45 (.cells #[.int .i64 0, .int .i64 0] 45))
            have glt20 := World.block_lt_of_cell? _ _ s0
            have gd2120 := blk_lt B21.out
            have q0 := cell_alloc_o (.cells #[.int .i64 0, .int .i64 0] 45) s0
            have q1 := cell_alloc_o (.cells #[.int .i64 0, .int .i64 0] 45) s1
            have N1 := Aside0.mk (Kd.R_alloc HS.out (.cells #[.int .i64 0, .int .i64 0] 45))
            have N2 := Aside0.mk (below_alloc HB.out (.cells #[.int .i64 0, .int .i64 0] 45))
            have NB21 := Aside0.mk (blk_alloc B21.out (.cells #[.int .i64 0, .int .i64 0] 45))
            refine hK.out _ _ ⟨q0, q1⟩ (fun hHeld => ?_)
            clear s0 s1 HB HS B21
            have s0 := q0
            have s1 := q1
            have HS := N1
            have HB := N2
            have B21 := NB21
            have B20 := NX
            clear q0 q1 N1 N2 NX NB21
            generalize Wc45.alloc (.cells #[.int .i64 0, .int .i64 0] 45) = Wa50 at *
            generalize Wc45.heap.size = g20 at *
            clear hK K
            try simp only [Act.put, List.setIfInBounds_toArray, List.set_cons_zero, List.set_cons_succ]
            refine wpAnyH_ready (rs := [7]) (by kernel_rfl) (by simp) ?_
            refine AllReadyH.cons (o := { dst := some 289, op := Op.call { callee := Callee.value (Operand.func 26), args := #[Operand.tmp 286, Operand.tmp 287, Operand.const (Value.bool true), Operand.tmp 288], argTypes := #[24, 27, 4, 3] }, type := 45, pos := "outright.go:175", after := #[{ on := 4, ground := Ground.data }, { on := 5, ground := Ground.data }, { on := 6, ground := Ground.data }, { on := 3, ground := Ground.chain }], guard := none }) rfl (fun K hK => ?_) ?_
            · go_simp
              refine (sum_any _ _ true _ _ _ _ _ _ _ (Kd.C_below HR.out HB.out) hc HP.out (Kd.R_reads' HS.out).2.2 (Kd.R_reads' HS.out).2.1 HWS.out).mono ?_
              rintro e Wc51 ⟨rfl, hb⟩
              have q0 := (hb.cell (World.block_lt_of_cell? _ _ s0)).trans s0
              have q1 := (hb.cell (World.block_lt_of_cell? _ _ s1)).trans s1
              have N1 := Aside0.mk (Kd.R_below HS.out hb)
              have N2 := Aside0.mk (bl_next HB.out hb)
              have NB21 := Aside0.mk (blk_below B21.out hb)
              have NB20 := Aside0.mk (blk_below B20.out hb)
              refine hK.out _ _ ⟨q0, q1⟩ (fun hHeld => ?_)
              clear hb s0 s1 HS HB B21 B20
              have s0 := q0
              have s1 := q1
              have HS := N1
              have HB := N2
              have B21 := NB21
              have B20 := NB20
              clear q0 q1 N1 N2 NB21 NB20
              clear hK K
              try simp only [Act.put, List.setIfInBounds_toArray, List.set_cons_zero, List.set_cons_succ]
              refine wpAnyH_ready (rs := [10]) (by kernel_rfl) (by simp) ?_
              refine AllReadyH.cons (o := { dst := none, op := Op.store 45 (Operand.tmp 20) (Operand.tmp 285), type := 0, pos := "outright.go:175", after := #[{ on := 8, ground := Ground.data }, { on := 3, ground := Ground.data }, { on := 7, ground := Ground.chain }, { on := 0, ground := Ground.phase }, { on := 1, ground := Ground.phase }, { on := 2, ground := Ground.phase }, { on := 3, ground := Ground.phase }, { on := 4, ground := Ground.textOnly Departure.lateStores }, { on := 5, ground := Ground.textOnly Departure.lateStores }, { on := 6, ground := Ground.textOnly Departure.lateStores }, { on := 7, ground := Ground.textOnly Departure.lateStoresUnsure }, { on := 8, ground := Ground.phase }, { on := 9, ground := Ground.phase }], guard := none }) rfl (fun K hK => ?_) ?_
              · have z0 := cell_two B20.out 0 rfl
                have z1 := cell_two B20.out 1 rfl
                have zf0 := blk_frozen B20.out 0
                have zf1 := blk_frozen B20.out 1
                go_simp
                have hne : g20 ≠ w.heap.size := Nat.ne_of_gt glt20
                have q0 := (World.cell?_setCell_far (Wc51.setCell ⟨g20, 0, none⟩ (.int .i64 (totalW (listS s) flow false false l))) ⟨g20, 1, none⟩ ⟨w.heap.size, 0, none⟩ (.int .i64 (totalW (listS s) flow false true l)) hne).trans ((World.cell?_setCell_far Wc51 ⟨g20, 0, none⟩ ⟨w.heap.size, 0, none⟩ (.int .i64 (totalW (listS s) flow false false l)) hne).trans s0)
                have q1 := (World.cell?_setCell_far (Wc51.setCell ⟨g20, 0, none⟩ (.int .i64 (totalW (listS s) flow false false l))) ⟨g20, 1, none⟩ ⟨w.heap.size, 1, none⟩ (.int .i64 (totalW (listS s) flow false true l)) hne).trans ((World.cell?_setCell_far Wc51 ⟨g20, 0, none⟩ ⟨w.heap.size, 1, none⟩ (.int .i64 (totalW (listS s) flow false false l)) hne).trans s1)
                have N2 := Aside0.mk (below_set (j := 1) (v := .int .i64 (totalW (listS s) flow false true l)) (below_set (j := 0) (v := .int .i64 (totalW (listS s) flow false false l)) HB.out (Nat.le_of_lt glt20)) (Nat.le_of_lt glt20))
                have NX := Aside0.mk (blk_put (blk_put B20.out 0 (.int .i64 (totalW (listS s) flow false false l)) rfl) 1 (.int .i64 (totalW (listS s) flow false true l)) rfl)
                have NB21 := Aside0.mk (blk_set_ne (blk_set_ne B21.out (Nat.ne_of_gt gd2120) 0 (.int .i64 (totalW (listS s) flow false false l))) (Nat.ne_of_gt gd2120) 1 (.int .i64 (totalW (listS s) flow false true l)))
                refine hK.out _ _ ⟨q0, q1⟩ (fun hHeld => ?_)
                clear s0 s1 HB z0 z1 zf0 zf1 hne HS B21 B20
                have s0 := q0
                have s1 := q1
                have HB := N2
                have B21 := NB21
                have B20 := NX
                clear q0 q1 N2 NX NB21
                generalize (Wc51.setCell ⟨g20, 0, none⟩ (.int .i64 (totalW (listS s) flow false false l))).setCell ⟨g20, 1, none⟩ (.int .i64 (totalW (listS s) flow false true l)) = Ws52 at *
                clear hK K
                try simp only [Act.put, List.setIfInBounds_toArray, List.set_cons_zero, List.set_cons_succ]
                refine wpAnyH_ready (rs := [11]) (by kernel_rfl) (by simp) ?_
                refine AllReadyH.cons (o := { dst := none, op := Op.store 45 (Operand.tmp 21) (Operand.tmp 289), type := 0, pos := "outright.go:175", after := #[{ on := 9, ground := Ground.data }, { on := 7, ground := Ground.data }, { on := 10, ground := Ground.chain }, { on := 0, ground := Ground.phase }, { on := 1, ground := Ground.phase }, { on := 2, ground := Ground.phase }, { on := 3, ground := Ground.phase }, { on := 4, ground := Ground.phase }, { on := 5, ground := Ground.phase }, { on := 6, ground := Ground.phase }, { on := 7, ground := Ground.phase }, { on := 8, ground := Ground.phase }, { on := 9, ground := Ground.phase }, { on := 10, ground := Ground.phase }], guard := none }) rfl (fun K hK => ?_) ?_
                · have z0 := cell_two B21.out 0 rfl
                  have z1 := cell_two B21.out 1 rfl
                  have zf0 := blk_frozen B21.out 0
                  have zf1 := blk_frozen B21.out 1
                  go_simp
                  have hne : g21 ≠ w.heap.size := Nat.ne_of_gt glt21
                  have q0 := (World.cell?_setCell_far (Ws52.setCell ⟨g21, 0, none⟩ (.int .i64 (totalW (listS s) flow true false l))) ⟨g21, 1, none⟩ ⟨w.heap.size, 0, none⟩ (.int .i64 (totalW (listS s) flow true true l)) hne).trans ((World.cell?_setCell_far Ws52 ⟨g21, 0, none⟩ ⟨w.heap.size, 0, none⟩ (.int .i64 (totalW (listS s) flow true false l)) hne).trans s0)
                  have q1 := (World.cell?_setCell_far (Ws52.setCell ⟨g21, 0, none⟩ (.int .i64 (totalW (listS s) flow true false l))) ⟨g21, 1, none⟩ ⟨w.heap.size, 1, none⟩ (.int .i64 (totalW (listS s) flow true true l)) hne).trans ((World.cell?_setCell_far Ws52 ⟨g21, 0, none⟩ ⟨w.heap.size, 1, none⟩ (.int .i64 (totalW (listS s) flow true false l)) hne).trans s1)
                  have N2 := Aside0.mk (below_set (j := 1) (v := .int .i64 (totalW (listS s) flow true true l)) (below_set (j := 0) (v := .int .i64 (totalW (listS s) flow true false l)) HB.out (Nat.le_of_lt glt21)) (Nat.le_of_lt glt21))
                  have NX := Aside0.mk (blk_put (blk_put B21.out 0 (.int .i64 (totalW (listS s) flow true false l)) rfl) 1 (.int .i64 (totalW (listS s) flow true true l)) rfl)
                  have NB20 := Aside0.mk (blk_set_ne (blk_set_ne B20.out (Nat.ne_of_lt gd2120) 0 (.int .i64 (totalW (listS s) flow true false l))) (Nat.ne_of_lt gd2120) 1 (.int .i64 (totalW (listS s) flow true true l)))
                  refine hK.out _ _ ⟨q0, q1⟩ (fun hHeld => ?_)
                  clear s0 s1 HB z0 z1 zf0 zf1 hne B21 B20
                  have s0 := q0
                  have s1 := q1
                  have HB := N2
                  have B20 := NB20
                  have B21 := NX
                  clear q0 q1 N2 NX NB20
                  generalize (Ws52.setCell ⟨g21, 0, none⟩ (.int .i64 (totalW (listS s) flow true false l))).setCell ⟨g21, 1, none⟩ (.int .i64 (totalW (listS s) flow true true l)) = Ws53 at *
                  clear hK K
                  try simp only [Act.put, List.setIfInBounds_toArray, List.set_cons_zero, List.set_cons_succ]
                  refine wpAnyH_done (by kernel_rfl) ?_ _
                  have z0 := cell_two B20.out 0 rfl
                  have z1 := cell_two B20.out 1 rfl
                  have z2 := cell_two B21.out 0 rfl
                  have z3 := cell_two B21.out 1 rfl
                  go_wp2_with (go_at_call 10; refine (awake_any _).mono ?_; rintro e Wz ⟨rfl, hb⟩; have HBz := Aside0.mk (bl_next HB.out hb); clear hb)
                  go_ret
                  exact ⟨rfl, HBz.out⟩
                exact AllReadyH.nil
              exact AllReadyH.nil
            exact AllReadyH.nil
          exact AllReadyH.nil
        refine AllReadyH.cons (o := { dst := some 20, op := Op.alloc 45, type := 0, pos := "outright.go:175", after := #[], guard := none }) rfl (fun K hK => ?_) ?_
        · go_simp
          have NX := Aside0.mk (blk_new Wa44 (.cells #[.int .i64 0, .int .i64 0] 45))
          have glt20 := World.block_lt_of_cell? _ _ s0
          have gd2120 := blk_lt B21.out
          have q0 := cell_alloc_o (.cells #[.int .i64 0, .int .i64 0] 45) s0
          have q1 := cell_alloc_o (.cells #[.int .i64 0, .int .i64 0] 45) s1
          have N1 := Aside0.mk (Kd.R_alloc HS.out (.cells #[.int .i64 0, .int .i64 0] 45))
          have N2 := Aside0.mk (below_alloc HB.out (.cells #[.int .i64 0, .int .i64 0] 45))
          have NB21 := Aside0.mk (blk_alloc B21.out (.cells #[.int .i64 0, .int .i64 0] 45))
          refine hK.out _ _ ⟨q0, q1⟩ (fun hHeld => ?_)
          clear s0 s1 HB HS B21
          have s0 := q0
          have s1 := q1
          have HS := N1
          have HB := N2
          have B21 := NB21
          have B20 := NX
          clear q0 q1 N1 N2 NX NB21
          generalize Wa44.alloc (.cells #[.int .i64 0, .int .i64 0] 45) = Wa54 at *
          generalize Wa44.heap.size = g20 at *
          clear hK K
          try simp only [Act.put, List.setIfInBounds_toArray, List.set_cons_zero, List.set_cons_succ]
          refine wpAnyH_ready (rs := [3]) (by kernel_rfl) (by simp) ?_
          refine AllReadyH.cons (o := { dst := some 285, op := Op.call { callee := Callee.value (Operand.func 26), args := #[Operand.tmp 282, Operand.tmp 283, Operand.const (Value.bool false), Operand.tmp 284], argTypes := #[24, 27, 4, 3] }, type := 45, pos := "outright.go:175", after := #[{ on := 0, ground := Ground.data }, { on := 1, ground := Ground.data }, { on := 2, ground := Ground.data }], guard := none }) rfl (fun K hK => ?_) ?_
          · go_simp
            refine (sum_any _ _ false _ _ _ _ _ _ _ (Kd.C_below HR.out HB.out) hc HP.out (Kd.R_reads' HS.out).2.2 (Kd.R_reads' HS.out).2.1 HWS.out).mono ?_
            rintro e Wc55 ⟨rfl, hb⟩
            have q0 := (hb.cell (World.block_lt_of_cell? _ _ s0)).trans s0
            have q1 := (hb.cell (World.block_lt_of_cell? _ _ s1)).trans s1
            have N1 := Aside0.mk (Kd.R_below HS.out hb)
            have N2 := Aside0.mk (bl_next HB.out hb)
            have NB21 := Aside0.mk (blk_below B21.out hb)
            have NB20 := Aside0.mk (blk_below B20.out hb)
            refine hK.out _ _ ⟨q0, q1⟩ (fun hHeld => ?_)
            clear hb s0 s1 HS HB B21 B20
            have s0 := q0
            have s1 := q1
            have HS := N1
            have HB := N2
            have B21 := NB21
            have B20 := NB20
            clear q0 q1 N1 N2 NB21 NB20
            clear hK K
            try simp only [Act.put, List.setIfInBounds_toArray, List.set_cons_zero, List.set_cons_succ]
            refine wpAnyH_ready (rs := [7]) (by kernel_rfl) (by simp) ?_
            refine AllReadyH.cons (o := { dst := some 289, op := Op.call { callee := Callee.value (Operand.func 26), args := #[Operand.tmp 286, Operand.tmp 287, Operand.const (Value.bool true), Operand.tmp 288], argTypes := #[24, 27, 4, 3] }, type := 45, pos := "outright.go:175", after := #[{ on := 4, ground := Ground.data }, { on := 5, ground := Ground.data }, { on := 6, ground := Ground.data }, { on := 3, ground := Ground.chain }], guard := none }) rfl (fun K hK => ?_) ?_
            · go_simp
              refine (sum_any _ _ true _ _ _ _ _ _ _ (Kd.C_below HR.out HB.out) hc HP.out (Kd.R_reads' HS.out).2.2 (Kd.R_reads' HS.out).2.1 HWS.out).mono ?_
              rintro e Wc56 ⟨rfl, hb⟩
              have q0 := (hb.cell (World.block_lt_of_cell? _ _ s0)).trans s0
              have q1 := (hb.cell (World.block_lt_of_cell? _ _ s1)).trans s1
              have N1 := Aside0.mk (Kd.R_below HS.out hb)
              have N2 := Aside0.mk (bl_next HB.out hb)
              have NB21 := Aside0.mk (blk_below B21.out hb)
              have NB20 := Aside0.mk (blk_below B20.out hb)
              refine hK.out _ _ ⟨q0, q1⟩ (fun hHeld => ?_)
              clear hb s0 s1 HS HB B21 B20
              have s0 := q0
              have s1 := q1
              have HS := N1
              have HB := N2
              have B21 := NB21
              have B20 := NB20
              clear q0 q1 N1 N2 NB21 NB20
              clear hK K
              try simp only [Act.put, List.setIfInBounds_toArray, List.set_cons_zero, List.set_cons_succ]
              refine wpAnyH_ready (rs := [10]) (by kernel_rfl) (by simp) ?_
              refine AllReadyH.cons (o := { dst := none, op := Op.store 45 (Operand.tmp 20) (Operand.tmp 285), type := 0, pos := "outright.go:175", after := #[{ on := 8, ground := Ground.data }, { on := 3, ground := Ground.data }, { on := 7, ground := Ground.chain }, { on := 0, ground := Ground.phase }, { on := 1, ground := Ground.phase }, { on := 2, ground := Ground.phase }, { on := 3, ground := Ground.phase }, { on := 4, ground := Ground.textOnly Departure.lateStores }, { on := 5, ground := Ground.textOnly Departure.lateStores }, { on := 6, ground := Ground.textOnly Departure.lateStores }, { on := 7, ground := Ground.textOnly Departure.lateStoresUnsure }, { on := 8, ground := Ground.phase }, { on := 9, ground := Ground.phase }], guard := none }) rfl (fun K hK => ?_) ?_
              · have z0 := cell_two B20.out 0 rfl
                have z1 := cell_two B20.out 1 rfl
                have zf0 := blk_frozen B20.out 0
                have zf1 := blk_frozen B20.out 1
                go_simp
                have hne : g20 ≠ w.heap.size := Nat.ne_of_gt glt20
                have q0 := (World.cell?_setCell_far (Wc56.setCell ⟨g20, 0, none⟩ (.int .i64 (totalW (listS s) flow false false l))) ⟨g20, 1, none⟩ ⟨w.heap.size, 0, none⟩ (.int .i64 (totalW (listS s) flow false true l)) hne).trans ((World.cell?_setCell_far Wc56 ⟨g20, 0, none⟩ ⟨w.heap.size, 0, none⟩ (.int .i64 (totalW (listS s) flow false false l)) hne).trans s0)
                have q1 := (World.cell?_setCell_far (Wc56.setCell ⟨g20, 0, none⟩ (.int .i64 (totalW (listS s) flow false false l))) ⟨g20, 1, none⟩ ⟨w.heap.size, 1, none⟩ (.int .i64 (totalW (listS s) flow false true l)) hne).trans ((World.cell?_setCell_far Wc56 ⟨g20, 0, none⟩ ⟨w.heap.size, 1, none⟩ (.int .i64 (totalW (listS s) flow false false l)) hne).trans s1)
                have N2 := Aside0.mk (below_set (j := 1) (v := .int .i64 (totalW (listS s) flow false true l)) (below_set (j := 0) (v := .int .i64 (totalW (listS s) flow false false l)) HB.out (Nat.le_of_lt glt20)) (Nat.le_of_lt glt20))
                have NX := Aside0.mk (blk_put (blk_put B20.out 0 (.int .i64 (totalW (listS s) flow false false l)) rfl) 1 (.int .i64 (totalW (listS s) flow false true l)) rfl)
                have NB21 := Aside0.mk (blk_set_ne (blk_set_ne B21.out (Nat.ne_of_gt gd2120) 0 (.int .i64 (totalW (listS s) flow false false l))) (Nat.ne_of_gt gd2120) 1 (.int .i64 (totalW (listS s) flow false true l)))
                refine hK.out _ _ ⟨q0, q1⟩ (fun hHeld => ?_)
                clear s0 s1 HB z0 z1 zf0 zf1 hne HS B21 B20
                have s0 := q0
                have s1 := q1
                have HB := N2
                have B21 := NB21
                have B20 := NX
                clear q0 q1 N2 NX NB21
                generalize (Wc56.setCell ⟨g20, 0, none⟩ (.int .i64 (totalW (listS s) flow false false l))).setCell ⟨g20, 1, none⟩ (.int .i64 (totalW (listS s) flow false true l)) = Ws57 at *
                clear hK K
                try simp only [Act.put, List.setIfInBounds_toArray, List.set_cons_zero, List.set_cons_succ]
                refine wpAnyH_ready (rs := [11]) (by kernel_rfl) (by simp) ?_
                refine AllReadyH.cons (o := { dst := none, op := Op.store 45 (Operand.tmp 21) (Operand.tmp 289), type := 0, pos := "outright.go:175", after := #[{ on := 9, ground := Ground.data }, { on := 7, ground := Ground.data }, { on := 10, ground := Ground.chain }, { on := 0, ground := Ground.phase }, { on := 1, ground := Ground.phase }, { on := 2, ground := Ground.phase }, { on := 3, ground := Ground.phase }, { on := 4, ground := Ground.phase }, { on := 5, ground := Ground.phase }, { on := 6, ground := Ground.phase }, { on := 7, ground := Ground.phase }, { on := 8, ground := Ground.phase }, { on := 9, ground := Ground.phase }, { on := 10, ground := Ground.phase }], guard := none }) rfl (fun K hK => ?_) ?_
                · have z0 := cell_two B21.out 0 rfl
                  have z1 := cell_two B21.out 1 rfl
                  have zf0 := blk_frozen B21.out 0
                  have zf1 := blk_frozen B21.out 1
                  go_simp
                  have hne : g21 ≠ w.heap.size := Nat.ne_of_gt glt21
                  have q0 := (World.cell?_setCell_far (Ws57.setCell ⟨g21, 0, none⟩ (.int .i64 (totalW (listS s) flow true false l))) ⟨g21, 1, none⟩ ⟨w.heap.size, 0, none⟩ (.int .i64 (totalW (listS s) flow true true l)) hne).trans ((World.cell?_setCell_far Ws57 ⟨g21, 0, none⟩ ⟨w.heap.size, 0, none⟩ (.int .i64 (totalW (listS s) flow true false l)) hne).trans s0)
                  have q1 := (World.cell?_setCell_far (Ws57.setCell ⟨g21, 0, none⟩ (.int .i64 (totalW (listS s) flow true false l))) ⟨g21, 1, none⟩ ⟨w.heap.size, 1, none⟩ (.int .i64 (totalW (listS s) flow true true l)) hne).trans ((World.cell?_setCell_far Ws57 ⟨g21, 0, none⟩ ⟨w.heap.size, 1, none⟩ (.int .i64 (totalW (listS s) flow true false l)) hne).trans s1)
                  have N2 := Aside0.mk (below_set (j := 1) (v := .int .i64 (totalW (listS s) flow true true l)) (below_set (j := 0) (v := .int .i64 (totalW (listS s) flow true false l)) HB.out (Nat.le_of_lt glt21)) (Nat.le_of_lt glt21))
                  have NX := Aside0.mk (blk_put (blk_put B21.out 0 (.int .i64 (totalW (listS s) flow true false l)) rfl) 1 (.int .i64 (totalW (listS s) flow true true l)) rfl)
                  have NB20 := Aside0.mk (blk_set_ne (blk_set_ne B20.out (Nat.ne_of_lt gd2120) 0 (.int .i64 (totalW (listS s) flow true false l))) (Nat.ne_of_lt gd2120) 1 (.int .i64 (totalW (listS s) flow true true l)))
                  refine hK.out _ _ ⟨q0, q1⟩ (fun hHeld => ?_)
                  clear s0 s1 HB z0 z1 zf0 zf1 hne B21 B20
                  have s0 := q0
                  have s1 := q1
                  have HB := N2
                  have B20 := NB20
                  have B21 := NX
                  clear q0 q1 N2 NX NB20
                  generalize (Ws57.setCell ⟨g21, 0, none⟩ (.int .i64 (totalW (listS s) flow true false l))).setCell ⟨g21, 1, none⟩ (.int .i64 (totalW (listS s) flow true true l)) = Ws58 at *
                  clear hK K
                  try simp only [Act.put, List.setIfInBounds_toArray, List.set_cons_zero, List.set_cons_succ]
                  refine wpAnyH_done (by kernel_rfl) ?_ _
                  have z0 := cell_two B20.out 0 rfl
                  have z1 := cell_two B20.out 1 rfl
                  have z2 := cell_two B21.out 0 rfl
                  have z3 := cell_two B21.out 1 rfl
                  go_wp2_with (go_at_call 10; refine (awake_any _).mono ?_; rintro e Wz ⟨rfl, hb⟩; have HBz := Aside0.mk (bl_next HB.out hb); clear hb)
                  go_ret
                  exact ⟨rfl, HBz.out⟩
                exact AllReadyH.nil
              exact AllReadyH.nil
            exact AllReadyH.nil
          exact AllReadyH.nil
        exact AllReadyH.nil
      exact AllReadyH.nil

end Go.Proofs.Ytalgbihpidpblaa.Print
