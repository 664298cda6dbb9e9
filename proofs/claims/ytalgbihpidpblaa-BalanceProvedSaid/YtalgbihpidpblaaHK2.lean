/- BalanceProved: the way without a truth, the flow out of range. -/
import Derived.Test.YtalgbihpidpblaaHK
namespace Go.Proofs.Ytalgbihpidpblaa.Print
open Go.RowKit Go.Shelf Go.Proofs.YtalgbihpidpblaaW.PrintWords Go.Proofs.YtalgbihpidpblaaW.PrintLast Go.Proofs.YtalgbihpidpblaaW.PrintMore
set_option linter.unusedVariables false
set_option linter.unusedSimpArgs false

set_option maxHeartbeats 4000000 in
set_option maxRecDepth 100000 in
theorem proved_none_low (pl : Int) (A : Option Addr) (c : Nat) (l : List S47) (flow : Int) (most : Bool) (w : World) (hr : Kd.C k47 w A l.length l) (hc : l.length ≤ c) (hl : ¬ (l.length : Int) > 20) (hp : isPlantB pl l = true) (s : Int) (hs : s ∈ setsL pl) (h19 : wrongS pl l = (listS s, 0)) (h13 : tightS pl l = ([], 6)) (h17 : whyS pl l flow most = ([], 2)) (hq : totalW (listS s) (-1) false false l > totalW (listS s) (-1) true true l) (hf : flow < 0) :
    Calls Try.prog 7 #[.agg #[.int .i64 pl, .slice A l.length c], .int .i64 flow, .bool most] w fun e w' => e = .returned (.bool true) ∧ Below w.heap.size w w' := by
  have HR := Aside0.mk hr
  clear hr
  have fld0 := fieldB_0
  have fld1 := fieldB_1
  have HW19 := Aside0.mk h19
  clear h19
  have HW13 := Aside0.mk h13
  clear h13
  have HW17 := Aside0.mk h17
  clear h17
  have HP := Aside0.mk hp
  clear hp
  have HSS := Aside0.mk hs
  clear hs
  have hf2 : decide (flow < 0) = true := decide_eq_true hf
  have hl2 : decide ((l.length : Int) > 20) = false := decide_eq_false hl
  have hqd : decide (totalW (listS s) (-1) false false l > totalW (listS s) (-1) true true l) = true := decide_eq_true hq
  have h8 := (plant_of pl l HP.out).2.1
  have hlen := list_len s
  have hws : ∀ x ∈ listS s, 0 ≤ x ∧ x < 8 := fun x hx => ((listS_mem s x).1 hx).1
  have HWS := Aside0.mk hws
  clear hws
  go_enter Try.func7, Try.ntmps7
  go_wp2_with (first
    | (go_at_call 19; refine (wrong_call (r := (listS s, 0)) HW19.out (Kd.C_below HR.out (by repeat (first | exact Below.refl _ _ | apply below_alloc))) hc).mono ?_; rintro e W1 ⟨v, rfl, hR, hb⟩; obtain ⟨A1, c1, rfl⟩ := Kd.R_slice hR; have HT1 := Aside0.mk hR; have BP1 := Aside0.mk (blk_below (blk_new w (.cells #[.int .i64 pl, .slice A l.length c] 24)) hb); have HB1 := Aside0.mk (bl_next (below_alloc (Below.refl _ _) _) hb); have s0 := cell_two BP1.out 0 rfl; have s1 := cell_two BP1.out 1 rfl; clear hR hb)
    | (go_at_call 13; refine (tight_call (r := ([], 6)) HW13.out (Kd.C_below HR.out HB1.out) hc).mono ?_; rintro e W2 ⟨v, rfl, hR, hb⟩; obtain ⟨A2, c2, rfl⟩ := Kd.R_slice hR; have HU2 := Aside0.mk hR; have HT2 := Aside0.mk (Kd.R_below HT1.out hb); have BP2 := Aside0.mk (blk_below BP1.out hb); have HB2 := Aside0.mk (bl_next HB1.out hb); clear s0 s1 HT1 BP1 HB1; have s0 := cell_two BP2.out 0 rfl; have s1 := cell_two BP2.out 1 rfl; clear hR hb)
    | (go_at_call 17; refine (why_call (r := ([], 2)) HW17.out (Kd.C_below HR.out HB2.out) hc).mono ?_; rintro e W3 ⟨v, rfl, hR, hb⟩; obtain ⟨A3, c3, rfl⟩ := Kd.R_slice hR; have HV3 := Aside0.mk hR; have HT3 := Aside0.mk (Kd.R_below HT2.out hb); have HU3 := Aside0.mk (Kd.R_below HU2.out hb); have BP3 := Aside0.mk (blk_below BP2.out hb); have HB3 := Aside0.mk (bl_next HB2.out hb); clear s0 s1 HT2 HU2 BP2 HB2; have s0 := cell_two BP3.out 0 rfl; have s1 := cell_two BP3.out 1 rfl; clear hR hb)
    | (go_at_call 23; refine (plant_call HP.out (Kd.C_below HR.out HB3.out) hc).mono ?_; rintro e W4 ⟨rfl, hb⟩; have HV4 := Aside0.mk (Kd.R_below HV3.out hb); have HT4 := Aside0.mk (Kd.R_below HT3.out hb); have HU4 := Aside0.mk (Kd.R_below HU3.out hb); have BP4 := Aside0.mk (blk_below BP3.out hb); have HB4 := Aside0.mk (bl_next HB3.out hb); clear s0 s1 HT3 HU3 HV3 BP3 HB3; have s0 := cell_two BP4.out 0 rfl; have s1 := cell_two BP4.out 1 rfl; clear hb))
  go_loopw [13] (fun i wr => ∃ k : Int, i = .int .i64 k ∧ 0 ≤ k ∧ k ≤ (listS s).length ∧ Aside0 (wr.heap[w.heap.size]? = some (.cells #[.int .i64 pl, .slice A l.length c] 24 (0, 0))) ∧
    Aside0 (Kd.R (Kd.int .i64) 3 wr w.heap.size (fun _ => True) (.slice A1 (listS s).length c1) (listS s)) ∧ Aside0 (Below w.heap.size w wr)) (fun i _ => (listS s).length - (intOf i).toNat)
  case atStart => exact ⟨0, rfl, by omega, by omega, BP4, ⟨Kd.R_lower HT4.out (by first | exact Nat.le_refl _ | simp)⟩, HB4⟩
  case round =>
    obtain ⟨k, rfl, hk0, hk, HY0, HY1, HB⟩ := hrel
    clear s0 s1 HT4 HU4 HV4 BP4 HB4
    have s0 := cell_two HY0.out 0 rfl
    have s1 := cell_two HY0.out 1 rfl
    by_cases hlt : k < (listS s).length
    · have hlt' : decide (k < (listS s).length) = true := decide_eq_true hlt
      have hx := list_rd pl s h8 HSS.out k hk0 hlt
      have x0 : decide (rd (listS s) k < 0) = false := decide_eq_false (by omega)
      have x1 : decide (pl ≤ rd (listS s) k) = false := decide_eq_false (by omega)
      obtain ⟨ad, e, g0⟩ := Kd.at_int (Kd.R_reads' HY1.out).2.2 k hk0 hlt
      cases e
      by_cases hz : k = 0
      · have hz2 : decide (0 < k) = false := decide_eq_false (by omega)
        clear hk hx hz
        go_wp2_with (fail)
        go_big_region
        go_wp2_with (fail)
        go_roundw
        case rel => exact ⟨k + 1, rfl, by omega, by omega, ⟨blk_drewN HY0.out _⟩, ⟨Kd.R_drewN HY1.out _⟩, ⟨pw_below_drewN HB.out _⟩⟩
        case measure => simp [intOf]; omega
      · have hz1 : (0 : Int) < k := by omega
        have hz2 : decide (0 < k) = true := decide_eq_true hz1
        have hu := list_up s k hz1 hlt
        have x2 : decide (rd (listS s) k ≤ rd (listS s) (k - 1)) = false := decide_eq_false (by omega)
        obtain ⟨ad', e, g1⟩ := Kd.at_int (Kd.R_reads' HY1.out).2.2 (k - 1) (by omega) (by omega)
        cases e
        rw [show (k - 1).toNat = k.toNat - 1 from by omega] at g1
        clear hx hu hz
        go_wp2_with (fail)
        go_big_region
        go_wp2_with (fail)
        go_roundw
        case rel => exact ⟨k + 1, rfl, by omega, by omega, ⟨blk_drewN HY0.out _⟩, ⟨Kd.R_drewN HY1.out _⟩, ⟨pw_below_drewN HB.out _⟩⟩
        case measure => simp [intOf]; omega
    · have hlt' : decide (k < (listS s).length) = false := decide_eq_false hlt
      go_wp2_with (fail)
      refine wp_region_held_drew (S := fun w' => w'.cell? ⟨w.heap.size, 0, none⟩ = some (.int .i64 pl) ∧ w'.cell? ⟨w.heap.size, 1, none⟩ = some (.slice A l.length c)) (by kernel_rfl) (⟨s0, s1⟩) (fun hHeld => ?_)
      refine wpAnyH_take (i := 0) (oi := { dst := some 120, op := Op.move (Operand.tmp 10), type := 28, pos := "outright.go:152", after := #[], guard := none }) (v := ?va0) rfl (by kernel_rfl) (by kernel_rfl) (by kernel_rfl) (fun _ _ _ h => h) (Or.inl ⟨by rfl, ?hya0⟩) (by assumption) ?_
      case hya0 => (intro wq hSw; (try dsimp only at hSw); go_simp; try (with_reducible rfl))
      try simp only [Act.put, List.setIfInBounds_toArray, List.set_cons_zero, List.set_cons_succ]
      refine wpAnyH_take (i := 1) (oi := { dst := some 121, op := Op.binOp BinOp.eql 28 (Operand.tmp 120) (Operand.const (Value.int IntKind.i64 6)) 28, type := 4, pos := "outright.go:152", after := #[{ on := 0, ground := Ground.data }], guard := none }) (v := ?va1) rfl (by kernel_rfl) (by kernel_rfl) (by kernel_rfl) (fun _ _ _ h => h) (Or.inl ⟨by rfl, ?hya1⟩) (by assumption) ?_
      case hya1 => (intro wq hSw; (try dsimp only at hSw); go_simp; try (with_reducible rfl))
      try simp only [Act.put, List.setIfInBounds_toArray, List.set_cons_zero, List.set_cons_succ]
      refine wpAnyH_take (i := 2) (oi := { dst := some 122, op := Op.move (Operand.tmp 121), type := 4, pos := "outright.go:152", after := #[{ on := 1, ground := Ground.data }], guard := none }) (v := ?va2) rfl (by kernel_rfl) (by kernel_rfl) (by kernel_rfl) (fun _ _ _ h => h) (Or.inl ⟨by rfl, ?hya2⟩) (by assumption) ?_
      case hya2 => (intro wq hSw; (try dsimp only at hSw); go_simp; try (with_reducible rfl))
      try simp only [Act.put, List.setIfInBounds_toArray, List.set_cons_zero, List.set_cons_succ]
      refine wpAnyH_take (i := 3) (oi := { dst := some 123, op := Op.load 24 (Operand.tmp 3), type := 24, pos := "outright.go:152", after := #[{ on := 2, ground := Ground.guard }], guard := some (2, true) }) (v := ?va3) rfl (by kernel_rfl) (by kernel_rfl) (by kernel_rfl) (fun _ _ _ h => h) (Or.inl ⟨by rfl, ?hya3⟩) (by assumption) ?_
      case hya3 => (intro wq hSw; (try dsimp only at hSw); go_simp; try (with_reducible rfl))
      try simp only [Act.put, List.setIfInBounds_toArray, List.set_cons_zero, List.set_cons_succ]
      refine wpAnyH_take (i := 4) (oi := { dst := some 124, op := Op.move (Operand.tmp 7), type := 27, pos := "outright.go:152", after := #[{ on := 2, ground := Ground.guard }], guard := some (2, true) }) (v := ?va4) rfl (by kernel_rfl) (by kernel_rfl) (by kernel_rfl) (fun _ _ _ h => h) (Or.inl ⟨by rfl, ?hya4⟩) (by assumption) ?_
      case hya4 => (intro wq hSw; (try dsimp only at hSw); go_simp; try (with_reducible rfl))
      try simp only [Act.put, List.setIfInBounds_toArray, List.set_cons_zero, List.set_cons_succ]
      refine wpAnyH_take (i := 7) (oi := { dst := some 127, op := Op.load 24 (Operand.tmp 3), type := 24, pos := "outright.go:152", after := #[{ on := 2, ground := Ground.guard }], guard := some (2, true) }) (v := ?va7) rfl (by kernel_rfl) (by kernel_rfl) (by kernel_rfl) (fun _ _ _ h => h) (Or.inl ⟨by rfl, ?hya7⟩) (by assumption) ?_
      case hya7 => (intro wq hSw; (try dsimp only at hSw); go_simp; try (with_reducible rfl))
      try simp only [Act.put, List.setIfInBounds_toArray, List.set_cons_zero, List.set_cons_succ]
      refine wpAnyH_take (i := 8) (oi := { dst := some 128, op := Op.move (Operand.tmp 7), type := 27, pos := "outright.go:152", after := #[{ on := 2, ground := Ground.guard }], guard := some (2, true) }) (v := ?va8) rfl (by kernel_rfl) (by kernel_rfl) (by kernel_rfl) (fun _ _ _ h => h) (Or.inl ⟨by rfl, ?hya8⟩) (by assumption) ?_
      case hya8 => (intro wq hSw; (try dsimp only at hSw); go_simp; try (with_reducible rfl))
      try simp only [Act.put, List.setIfInBounds_toArray, List.set_cons_zero, List.set_cons_succ]
      refine wpAnyH_ready (rs := [5]) (by kernel_rfl) (by simp) ?_
      refine AllReadyH.cons (o := { dst := some 125, op := Op.call { callee := Callee.value (Operand.func 26), args := #[Operand.tmp 123, Operand.tmp 124, Operand.const (Value.bool false), Operand.const (Value.int IntKind.i64 (-1))], argTypes := #[24, 27, 4, 3] }, type := 45, pos := "outright.go:152", after := #[{ on := 3, ground := Ground.data }, { on := 4, ground := Ground.data }, { on := 2, ground := Ground.chain }, { on := 2, ground := Ground.guard }], guard := some (2, true) }) rfl (fun K hK => ?_) AllReadyH.nil
      go_simp
      refine (sum_any _ _ false _ _ _ _ _ _ _ (Kd.C_below HR.out HB.out.drew) hc HP.out (Kd.R_reads' (Kd.R_drew HY1.out)).2.2 (Kd.R_reads' HY1.out).2.1 HWS.out).mono ?_
      rintro e W5 ⟨rfl, hb⟩
      have q0 := (hb.cell (World.block_lt_of_cell? _ _ s0)).trans s0
      have q1 := (hb.cell (World.block_lt_of_cell? _ _ s1)).trans s1
      have HY5 := Aside0.mk (Kd.R_below (Kd.R_drew HY1.out) hb)
      have HB5 := Aside0.mk (bl_next HB.out.drew hb)
      clear hb
      refine hK.out _ _ ⟨q0, q1⟩ (fun hHeld => ?_)
      clear hK K
      try simp only [Act.put, List.setIfInBounds_toArray, List.set_cons_zero, List.set_cons_succ]
      refine wpAnyH_take (i := 6) (oi := { dst := some 126, op := Op.field 45 (Operand.tmp 125) 0, type := 3, pos := "outright.go:152", after := #[{ on := 5, ground := Ground.data }, { on := 2, ground := Ground.guard }], guard := some (2, true) }) (v := ?va6) rfl (by kernel_rfl) (by kernel_rfl) (by kernel_rfl) (fun _ _ _ h => h) (Or.inl ⟨by rfl, ?hya6⟩) (by assumption) ?_
      case hya6 => (intro wq hSw; (try dsimp only at hSw); go_simp; try (with_reducible rfl))
      try simp only [Act.put, List.setIfInBounds_toArray, List.set_cons_zero, List.set_cons_succ]
      refine wpAnyH_ready (rs := [9]) (by kernel_rfl) (by simp) ?_
      refine AllReadyH.cons (o := { dst := some 129, op := Op.call { callee := Callee.value (Operand.func 26), args := #[Operand.tmp 127, Operand.tmp 128, Operand.const (Value.bool true), Operand.const (Value.int IntKind.i64 (-1))], argTypes := #[24, 27, 4, 3] }, type := 45, pos := "outright.go:152", after := #[{ on := 7, ground := Ground.data }, { on := 8, ground := Ground.data }, { on := 5, ground := Ground.chain }, { on := 2, ground := Ground.guard }], guard := some (2, true) }) rfl (fun K hK => ?_) AllReadyH.nil
      go_simp
      refine (sum_any _ _ true _ _ _ _ _ _ _ (Kd.C_below HR.out HB5.out) hc HP.out (Kd.R_reads' HY5.out).2.2 (Kd.R_reads' HY5.out).2.1 HWS.out).mono ?_
      rintro e W6 ⟨rfl, hb⟩
      have r0 := (hb.cell (World.block_lt_of_cell? _ _ q0)).trans q0
      have r1 := (hb.cell (World.block_lt_of_cell? _ _ q1)).trans q1
      have HB6 := Aside0.mk (bl_next HB5.out hb)
      clear hb
      refine hK.out _ _ ⟨r0, r1⟩ (fun hHeld => ?_)
      clear hK K
      try simp only [Act.put, List.setIfInBounds_toArray, List.set_cons_zero, List.set_cons_succ]
      refine wpAnyH_take (i := 10) (oi := { dst := some 130, op := Op.field 45 (Operand.tmp 129) 1, type := 3, pos := "outright.go:152", after := #[{ on := 9, ground := Ground.data }, { on := 2, ground := Ground.guard }], guard := some (2, true) }) (v := ?va10) rfl (by kernel_rfl) (by kernel_rfl) (by kernel_rfl) (fun _ _ _ h => h) (Or.inl ⟨by rfl, ?hya10⟩) (by assumption) ?_
      case hya10 => (intro wq hSw; (try dsimp only at hSw); go_simp; try (with_reducible rfl))
      try simp only [Act.put, List.setIfInBounds_toArray, List.set_cons_zero, List.set_cons_succ]
      refine wpAnyH_take (i := 11) (oi := { dst := some 131, op := Op.binOp BinOp.gtr 3 (Operand.tmp 126) (Operand.tmp 130) 3, type := 4, pos := "outright.go:152", after := #[{ on := 6, ground := Ground.data }, { on := 10, ground := Ground.data }, { on := 2, ground := Ground.guard }], guard := some (2, true) }) (v := ?va11) rfl (by kernel_rfl) (by kernel_rfl) (by kernel_rfl) (fun _ _ _ h => h) (Or.inl ⟨by rfl, ?hya11⟩) (by assumption) ?_
      case hya11 => (intro wq hSw; (try dsimp only at hSw); go_simp; try (with_reducible rfl))
      try simp only [Act.put, List.setIfInBounds_toArray, List.set_cons_zero, List.set_cons_succ]
      refine wpAnyH_take (i := 12) (oi := { dst := some 132, op := Op.pick (Operand.tmp 122) (Operand.tmp 131) (Operand.const (Value.bool false)), type := 4, pos := "outright.go:152", after := #[{ on := 2, ground := Ground.data }, { on := 11, ground := Ground.data }], guard := none }) (v := ?va12) rfl (by kernel_rfl) (by kernel_rfl) (by kernel_rfl) (fun _ _ _ h => h) (Or.inl ⟨by rfl, ?hya12⟩) (by assumption) ?_
      case hya12 => (intro wq hSw; (try dsimp only at hSw); go_simp; try (with_reducible rfl))
      try simp only [Act.put, List.setIfInBounds_toArray, List.set_cons_zero, List.set_cons_succ]
      refine wpAnyH_take (i := 13) (oi := { dst := some 133, op := Op.move (Operand.tmp 132), type := 4, pos := "outright.go:152", after := #[{ on := 12, ground := Ground.data }, { on := 9, ground := Ground.chain }], guard := none }) (v := ?va13) rfl (by kernel_rfl) (by kernel_rfl) (by kernel_rfl) (fun _ _ _ h => h) (Or.inl ⟨by rfl, ?hya13⟩) (by assumption) ?_
      case hya13 => (intro wq hSw; (try dsimp only at hSw); go_simp; try (with_reducible rfl))
      try simp only [Act.put, List.setIfInBounds_toArray, List.set_cons_zero, List.set_cons_succ]
      refine wpAnyH_take (i := 14) (oi := { dst := some 134, op := Op.move (Operand.tmp 12), type := 28, pos := "outright.go:152", after := #[{ on := 13, ground := Ground.guard }], guard := some (13, true) }) (v := ?va14) rfl (by kernel_rfl) (by kernel_rfl) (by kernel_rfl) (fun _ _ _ h => h) (Or.inl ⟨by rfl, ?hya14⟩) (by assumption) ?_
      case hya14 => (intro wq hSw; (try dsimp only at hSw); go_simp; try (with_reducible rfl))
      try simp only [Act.put, List.setIfInBounds_toArray, List.set_cons_zero, List.set_cons_succ]
      refine wpAnyH_take (i := 15) (oi := { dst := some 135, op := Op.binOp BinOp.eql 28 (Operand.tmp 134) (Operand.const (Value.int IntKind.i64 6)) 28, type := 4, pos := "outright.go:152", after := #[{ on := 14, ground := Ground.data }, { on := 13, ground := Ground.guard }], guard := some (13, true) }) (v := ?va15) rfl (by kernel_rfl) (by kernel_rfl) (by kernel_rfl) (fun _ _ _ h => h) (Or.inl ⟨by rfl, ?hya15⟩) (by assumption) ?_
      case hya15 => (intro wq hSw; (try dsimp only at hSw); go_simp; try (with_reducible rfl))
      try simp only [Act.put, List.setIfInBounds_toArray, List.set_cons_zero, List.set_cons_succ]
      refine wpAnyH_take (i := 16) (oi := { dst := some 136, op := Op.move (Operand.tmp 135), type := 4, pos := "outright.go:152", after := #[{ on := 15, ground := Ground.data }, { on := 13, ground := Ground.chain }, { on := 13, ground := Ground.guard }], guard := some (13, true) }) (v := ?va16) rfl (by kernel_rfl) (by kernel_rfl) (by kernel_rfl) (fun _ _ _ h => h) (Or.inl ⟨by rfl, ?hya16⟩) (by assumption) ?_
      case hya16 => (intro wq hSw; (try dsimp only at hSw); go_simp; try (with_reducible rfl))
      try simp only [Act.put, List.setIfInBounds_toArray, List.set_cons_zero, List.set_cons_succ]
      refine wpAnyH_take (i := 17) (oi := { dst := some 137, op := Op.move (Operand.tmp 12), type := 28, pos := "outright.go:152", after := #[{ on := 16, ground := Ground.guard }], guard := some (16, false) }) (v := ?va17) rfl (by kernel_rfl) (by kernel_rfl) (by kernel_rfl) (fun _ _ _ h => h) (Or.inl ⟨by rfl, ?hya17⟩) (by assumption) ?_
      case hya17 => (intro wq hSw; (try dsimp only at hSw); go_simp; try (with_reducible rfl))
      try simp only [Act.put, List.setIfInBounds_toArray, List.set_cons_zero, List.set_cons_succ]
      refine wpAnyH_take (i := 18) (oi := { dst := some 138, op := Op.binOp BinOp.eql 28 (Operand.tmp 137) (Operand.const (Value.int IntKind.i64 2)) 28, type := 4, pos := "outright.go:152", after := #[{ on := 17, ground := Ground.data }, { on := 16, ground := Ground.guard }], guard := some (16, false) }) (v := ?va18) rfl (by kernel_rfl) (by kernel_rfl) (by kernel_rfl) (fun _ _ _ h => h) (Or.inl ⟨by rfl, ?hya18⟩) (by assumption) ?_
      case hya18 => (intro wq hSw; (try dsimp only at hSw); go_simp; try (with_reducible rfl))
      try simp only [Act.put, List.setIfInBounds_toArray, List.set_cons_zero, List.set_cons_succ]
      refine wpAnyH_take (i := 19) (oi := { dst := some 139, op := Op.move (Operand.tmp 138), type := 4, pos := "outright.go:152", after := #[{ on := 18, ground := Ground.data }, { on := 16, ground := Ground.chain }, { on := 16, ground := Ground.guard }], guard := some (16, false) }) (v := ?va19) rfl (by kernel_rfl) (by kernel_rfl) (by kernel_rfl) (fun _ _ _ h => h) (Or.inl ⟨by rfl, ?hya19⟩) (by assumption) ?_
      case hya19 => (intro wq hSw; (try dsimp only at hSw); go_simp; try (with_reducible rfl))
      try simp only [Act.put, List.setIfInBounds_toArray, List.set_cons_zero, List.set_cons_succ]
      refine wpAnyH_take (i := 20) (oi := { dst := some 140, op := Op.move (Operand.tmp 1), type := 3, pos := "outright.go:152", after := #[{ on := 19, ground := Ground.guard }], guard := some (19, true) }) (v := ?va20) rfl (by kernel_rfl) (by kernel_rfl) (by kernel_rfl) (fun _ _ _ h => h) (Or.inl ⟨by rfl, ?hya20⟩) (by assumption) ?_
      case hya20 => (intro wq hSw; (try dsimp only at hSw); go_simp; try (with_reducible rfl))
      try simp only [Act.put, List.setIfInBounds_toArray, List.set_cons_zero, List.set_cons_succ]
      refine wpAnyH_take (i := 21) (oi := { dst := some 141, op := Op.binOp BinOp.lss 3 (Operand.tmp 140) (Operand.const (Value.int IntKind.i64 0)) 3, type := 4, pos := "outright.go:152", after := #[{ on := 20, ground := Ground.data }, { on := 19, ground := Ground.guard }], guard := some (19, true) }) (v := ?va21) rfl (by kernel_rfl) (by kernel_rfl) (by kernel_rfl) (fun _ _ _ h => h) (Or.inl ⟨by rfl, ?hya21⟩) (by assumption) ?_
      case hya21 => (intro wq hSw; (try dsimp only at hSw); go_simp; try (with_reducible rfl))
      try simp only [Act.put, List.setIfInBounds_toArray, List.set_cons_zero, List.set_cons_succ]
      refine wpAnyH_take (i := 22) (oi := { dst := some 142, op := Op.move (Operand.tmp 141), type := 4, pos := "outright.go:152", after := #[{ on := 21, ground := Ground.data }, { on := 19, ground := Ground.chain }, { on := 19, ground := Ground.guard }], guard := some (19, true) }) (v := ?va22) rfl (by kernel_rfl) (by kernel_rfl) (by kernel_rfl) (fun _ _ _ h => h) (Or.inl ⟨by rfl, ?hya22⟩) (by assumption) ?_
      case hya22 => (intro wq hSw; (try dsimp only at hSw); go_simp; try (with_reducible rfl))
      try simp only [Act.put, List.setIfInBounds_toArray, List.set_cons_zero, List.set_cons_succ]
      refine wpAnyH_take (i := 23) (oi := { dst := some 143, op := Op.move (Operand.tmp 1), type := 3, pos := "outright.go:152", after := #[{ on := 22, ground := Ground.guard }], guard := some (22, false) }) (v := undef) rfl (by kernel_rfl) (by kernel_rfl) (by kernel_rfl) (fun _ _ _ h => h) (Or.inr ⟨by rfl, rfl⟩) (by assumption) ?_
      try simp only [Act.put, List.setIfInBounds_toArray, List.set_cons_zero, List.set_cons_succ]
      refine wpAnyH_take (i := 24) (oi := { dst := some 144, op := Op.fieldAddr 24 (Operand.tmp 3) 1, type := 0, pos := "outright.go:152", after := #[{ on := 22, ground := Ground.guard }], guard := some (22, false) }) (v := undef) rfl (by kernel_rfl) (by kernel_rfl) (by kernel_rfl) (fun _ _ _ h => h) (Or.inr ⟨by rfl, rfl⟩) (by assumption) ?_
      try simp only [Act.put, List.setIfInBounds_toArray, List.set_cons_zero, List.set_cons_succ]
      refine wpAnyH_take (i := 25) (oi := { dst := some 145, op := Op.load 22 (Operand.tmp 144), type := 22, pos := "outright.go:152", after := #[{ on := 24, ground := Ground.data }, { on := 22, ground := Ground.guard }], guard := some (22, false) }) (v := undef) rfl (by kernel_rfl) (by kernel_rfl) (by kernel_rfl) (fun _ _ _ h => h) (Or.inr ⟨by rfl, rfl⟩) (by assumption) ?_
      try simp only [Act.put, List.setIfInBounds_toArray, List.set_cons_zero, List.set_cons_succ]
      refine wpAnyH_take (i := 26) (oi := { dst := some 146, op := Op.call { callee := Callee.builtin Builtin.len, args := #[Operand.tmp 145], argTypes := #[22] }, type := 3, pos := "outright.go:152", after := #[{ on := 25, ground := Ground.data }, { on := 22, ground := Ground.guard }], guard := some (22, false) }) (v := undef) rfl (by kernel_rfl) (by kernel_rfl) (by kernel_rfl) (fun _ _ _ h => h) (Or.inr ⟨by rfl, rfl⟩) (by assumption) ?_
      try simp only [Act.put, List.setIfInBounds_toArray, List.set_cons_zero, List.set_cons_succ]
      refine wpAnyH_take (i := 27) (oi := { dst := some 147, op := Op.binOp BinOp.geq 3 (Operand.tmp 143) (Operand.tmp 146) 3, type := 4, pos := "outright.go:152", after := #[{ on := 23, ground := Ground.data }, { on := 26, ground := Ground.data }, { on := 22, ground := Ground.guard }], guard := some (22, false) }) (v := undef) rfl (by kernel_rfl) (by kernel_rfl) (by kernel_rfl) (fun _ _ _ h => h) (Or.inr ⟨by rfl, rfl⟩) (by assumption) ?_
      try simp only [Act.put, List.setIfInBounds_toArray, List.set_cons_zero, List.set_cons_succ]
      refine wpAnyH_take (i := 28) (oi := { dst := some 148, op := Op.pick (Operand.tmp 142) (Operand.const (Value.bool true)) (Operand.tmp 147), type := 4, pos := "outright.go:152", after := #[{ on := 22, ground := Ground.data }, { on := 27, ground := Ground.data }, { on := 19, ground := Ground.guard }], guard := some (19, true) }) (v := ?va28) rfl (by kernel_rfl) (by kernel_rfl) (by kernel_rfl) (fun _ _ _ h => h) (Or.inl ⟨by rfl, ?hya28⟩) (by assumption) ?_
      case hya28 => (intro wq hSw; (try dsimp only at hSw); go_simp; try (with_reducible rfl))
      try simp only [Act.put, List.setIfInBounds_toArray, List.set_cons_zero, List.set_cons_succ]
      refine wpAnyH_take (i := 29) (oi := { dst := some 149, op := Op.pick (Operand.tmp 139) (Operand.tmp 148) (Operand.const (Value.bool false)), type := 4, pos := "outright.go:152", after := #[{ on := 19, ground := Ground.data }, { on := 28, ground := Ground.data }, { on := 16, ground := Ground.guard }], guard := some (16, false) }) (v := ?va29) rfl (by kernel_rfl) (by kernel_rfl) (by kernel_rfl) (fun _ _ _ h => h) (Or.inl ⟨by rfl, ?hya29⟩) (by assumption) ?_
      case hya29 => (intro wq hSw; (try dsimp only at hSw); go_simp; try (with_reducible rfl))
      try simp only [Act.put, List.setIfInBounds_toArray, List.set_cons_zero, List.set_cons_succ]
      refine wpAnyH_take (i := 30) (oi := { dst := some 150, op := Op.pick (Operand.tmp 136) (Operand.const (Value.bool true)) (Operand.tmp 149), type := 4, pos := "outright.go:152", after := #[{ on := 16, ground := Ground.data }, { on := 29, ground := Ground.data }, { on := 13, ground := Ground.guard }], guard := some (13, true) }) (v := ?va30) rfl (by kernel_rfl) (by kernel_rfl) (by kernel_rfl) (fun _ _ _ h => h) (Or.inl ⟨by rfl, ?hya30⟩) (by assumption) ?_
      case hya30 => (intro wq hSw; (try dsimp only at hSw); go_simp; try (with_reducible rfl))
      try simp only [Act.put, List.setIfInBounds_toArray, List.set_cons_zero, List.set_cons_succ]
      refine wpAnyH_take (i := 31) (oi := { dst := some 151, op := Op.pick (Operand.tmp 133) (Operand.tmp 150) (Operand.const (Value.bool false)), type := 4, pos := "outright.go:152", after := #[{ on := 13, ground := Ground.data }, { on := 30, ground := Ground.data }], guard := none }) (v := ?va31) rfl (by kernel_rfl) (by kernel_rfl) (by kernel_rfl) (fun _ _ _ h => h) (Or.inl ⟨by rfl, ?hya31⟩) (by assumption) ?_
      case hya31 => (intro wq hSw; (try dsimp only at hSw); go_simp; try (with_reducible rfl))
      try simp only [Act.put, List.setIfInBounds_toArray, List.set_cons_zero, List.set_cons_succ]
      refine wpAnyH_take (i := 32) (oi := { dst := some 152, op := Op.move (Operand.tmp 151), type := 4, pos := "outright.go:152", after := #[{ on := 31, ground := Ground.data }, { on := 22, ground := Ground.chain }], guard := none }) (v := ?va32) rfl (by kernel_rfl) (by kernel_rfl) (by kernel_rfl) (fun _ _ _ h => h) (Or.inl ⟨by rfl, ?hya32⟩) (by assumption) ?_
      case hya32 => (intro wq hSw; (try dsimp only at hSw); go_simp; try (with_reducible rfl))
      try simp only [Act.put, List.setIfInBounds_toArray, List.set_cons_zero, List.set_cons_succ]
      refine wpAnyH_ready (rs := [33]) (by kernel_rfl) (by simp) ?_
      refine AllReadyH.cons (o := { dst := some 153, op := Op.call { callee := Callee.value (Operand.func 10), args := #[], argTypes := #[] }, type := 4, pos := "outright.go:152", after := #[{ on := 32, ground := Ground.chain }, { on := 32, ground := Ground.guard }], guard := some (32, true) }) rfl (fun K hK => ?_) AllReadyH.nil
      go_simp
      refine (awake_any _).mono ?_
      rintro e Wz ⟨rfl, hb⟩
      have t0 := (hb.cell (World.block_lt_of_cell? _ _ r0)).trans r0
      have t1 := (hb.cell (World.block_lt_of_cell? _ _ r1)).trans r1
      have HBz := Aside0.mk (bl_next HB6.out hb)
      clear hb
      refine hK.out _ _ ⟨t0, t1⟩ (fun hHeld => ?_)
      clear hK K
      try simp only [Act.put, List.setIfInBounds_toArray, List.set_cons_zero, List.set_cons_succ]
      refine wpAnyH_take (i := 34) (oi := { dst := some 154, op := Op.pick (Operand.tmp 152) (Operand.tmp 153) (Operand.const (Value.bool false)), type := 4, pos := "outright.go:152", after := #[{ on := 32, ground := Ground.data }, { on := 33, ground := Ground.data }], guard := none }) (v := ?va34) rfl (by kernel_rfl) (by kernel_rfl) (by kernel_rfl) (fun _ _ _ h => h) (Or.inl ⟨by rfl, ?hya34⟩) (by assumption) ?_
      case hya34 => (intro wq hSw; (try dsimp only at hSw); go_simp; try (with_reducible rfl))
      try simp only [Act.put, List.setIfInBounds_toArray, List.set_cons_zero, List.set_cons_succ]
      refine wpAnyH_take (i := 35) (oi := { dst := some 6, op := Op.assign (Operand.tmp 154), type := 4, pos := "outright.go:152", after := #[{ on := 34, ground := Ground.data }, { on := 33, ground := Ground.chain }, { on := 0, ground := Ground.phase }, { on := 1, ground := Ground.phase }, { on := 2, ground := Ground.phase }, { on := 3, ground := Ground.phase }, { on := 4, ground := Ground.phase }, { on := 5, ground := Ground.phase }, { on := 6, ground := Ground.phase }, { on := 7, ground := Ground.phase }, { on := 8, ground := Ground.phase }, { on := 9, ground := Ground.phase }, { on := 10, ground := Ground.phase }, { on := 11, ground := Ground.phase }, { on := 12, ground := Ground.phase }, { on := 13, ground := Ground.phase }, { on := 14, ground := Ground.phase }, { on := 15, ground := Ground.phase }, { on := 16, ground := Ground.phase }, { on := 17, ground := Ground.phase }, { on := 18, ground := Ground.phase }, { on := 19, ground := Ground.phase }, { on := 20, ground := Ground.phase }, { on := 21, ground := Ground.phase }, { on := 22, ground := Ground.phase }, { on := 23, ground := Ground.phase }, { on := 24, ground := Ground.phase }, { on := 25, ground := Ground.phase }, { on := 26, ground := Ground.phase }, { on := 27, ground := Ground.phase }, { on := 28, ground := Ground.phase }, { on := 29, ground := Ground.phase }, { on := 30, ground := Ground.phase }, { on := 31, ground := Ground.phase }, { on := 32, ground := Ground.phase }, { on := 33, ground := Ground.phase }, { on := 34, ground := Ground.phase }], guard := none }) (v := ?va35) rfl (by kernel_rfl) (by kernel_rfl) (by kernel_rfl) (fun _ _ _ h => h) (Or.inl ⟨by rfl, ?hya35⟩) (by assumption) ?_
      case hya35 => (intro wq hSw; (try dsimp only at hSw); go_simp; try (with_reducible rfl))
      try simp only [Act.put, List.setIfInBounds_toArray, List.set_cons_zero, List.set_cons_succ]
      refine wpAnyH_done (by kernel_rfl) ?_ _
      go_wp2_with (fail)
      go_ret
      exact ⟨rfl, HBz.out⟩

set_option maxHeartbeats 4000000 in
set_option maxRecDepth 100000 in
theorem proved_none_high (pl : Int) (A : Option Addr) (c : Nat) (l : List S47) (flow : Int) (most : Bool) (w : World) (hr : Kd.C k47 w A l.length l) (hc : l.length ≤ c) (hl : ¬ (l.length : Int) > 20) (hp : isPlantB pl l = true) (s : Int) (hs : s ∈ setsL pl) (h19 : wrongS pl l = (listS s, 0)) (h13 : tightS pl l = ([], 6)) (h17 : whyS pl l flow most = ([], 2)) (hq : totalW (listS s) (-1) false false l > totalW (listS s) (-1) true true l) (hf : (l.length : Int) ≤ flow) :
    Calls Try.prog 7 #[.agg #[.int .i64 pl, .slice A l.length c], .int .i64 flow, .bool most] w fun e w' => e = .returned (.bool true) ∧ Below w.heap.size w w' := by
  have HR := Aside0.mk hr
  clear hr
  have fld0 := fieldB_0
  have fld1 := fieldB_1
  have HW19 := Aside0.mk h19
  clear h19
  have HW13 := Aside0.mk h13
  clear h13
  have HW17 := Aside0.mk h17
  clear h17
  have HP := Aside0.mk hp
  clear hp
  have HSS := Aside0.mk hs
  clear hs
  have hf2 : decide (flow < 0) = false := decide_eq_false (by omega)
  have hf3 : decide ((l.length : Int) ≤ flow) = true := decide_eq_true hf
  have hl2 : decide ((l.length : Int) > 20) = false := decide_eq_false hl
  have hqd : decide (totalW (listS s) (-1) false false l > totalW (listS s) (-1) true true l) = true := decide_eq_true hq
  have h8 := (plant_of pl l HP.out).2.1
  have hlen := list_len s
  have hws : ∀ x ∈ listS s, 0 ≤ x ∧ x < 8 := fun x hx => ((listS_mem s x).1 hx).1
  have HWS := Aside0.mk hws
  clear hws
  go_enter Try.func7, Try.ntmps7
  go_wp2_with (first
    | (go_at_call 19; refine (wrong_call (r := (listS s, 0)) HW19.out (Kd.C_below HR.out (by repeat (first | exact Below.refl _ _ | apply below_alloc))) hc).mono ?_; rintro e W1 ⟨v, rfl, hR, hb⟩; obtain ⟨A1, c1, rfl⟩ := Kd.R_slice hR; have HT1 := Aside0.mk hR; have BP1 := Aside0.mk (blk_below (blk_new w (.cells #[.int .i64 pl, .slice A l.length c] 24)) hb); have HB1 := Aside0.mk (bl_next (below_alloc (Below.refl _ _) _) hb); have s0 := cell_two BP1.out 0 rfl; have s1 := cell_two BP1.out 1 rfl; clear hR hb)
    | (go_at_call 13; refine (tight_call (r := ([], 6)) HW13.out (Kd.C_below HR.out HB1.out) hc).mono ?_; rintro e W2 ⟨v, rfl, hR, hb⟩; obtain ⟨A2, c2, rfl⟩ := Kd.R_slice hR; have HU2 := Aside0.mk hR; have HT2 := Aside0.mk (Kd.R_below HT1.out hb); have BP2 := Aside0.mk (blk_below BP1.out hb); have HB2 := Aside0.mk (bl_next HB1.out hb); clear s0 s1 HT1 BP1 HB1; have s0 := cell_two BP2.out 0 rfl; have s1 := cell_two BP2.out 1 rfl; clear hR hb)
    | (go_at_call 17; refine (why_call (r := ([], 2)) HW17.out (Kd.C_below HR.out HB2.out) hc).mono ?_; rintro e W3 ⟨v, rfl, hR, hb⟩; obtain ⟨A3, c3, rfl⟩ := Kd.R_slice hR; have HV3 := Aside0.mk hR; have HT3 := Aside0.mk (Kd.R_below HT2.out hb); have HU3 := Aside0.mk (Kd.R_below HU2.out hb); have BP3 := Aside0.mk (blk_below BP2.out hb); have HB3 := Aside0.mk (bl_next HB2.out hb); clear s0 s1 HT2 HU2 BP2 HB2; have s0 := cell_two BP3.out 0 rfl; have s1 := cell_two BP3.out 1 rfl; clear hR hb)
    | (go_at_call 23; refine (plant_call HP.out (Kd.C_below HR.out HB3.out) hc).mono ?_; rintro e W4 ⟨rfl, hb⟩; have HV4 := Aside0.mk (Kd.R_below HV3.out hb); have HT4 := Aside0.mk (Kd.R_below HT3.out hb); have HU4 := Aside0.mk (Kd.R_below HU3.out hb); have BP4 := Aside0.mk (blk_below BP3.out hb); have HB4 := Aside0.mk (bl_next HB3.out hb); clear s0 s1 HT3 HU3 HV3 BP3 HB3; have s0 := cell_two BP4.out 0 rfl; have s1 := cell_two BP4.out 1 rfl; clear hb))
  go_loopw [13] (fun i wr => ∃ k : Int, i = .int .i64 k ∧ 0 ≤ k ∧ k ≤ (listS s).length ∧ Aside0 (wr.heap[w.heap.size]? = some (.cells #[.int .i64 pl, .slice A l.length c] 24 (0, 0))) ∧
    Aside0 (Kd.R (Kd.int .i64) 3 wr w.heap.size (fun _ => True) (.slice A1 (listS s).length c1) (listS s)) ∧ Aside0 (Below w.heap.size w wr)) (fun i _ => (listS s).length - (intOf i).toNat)
  case atStart => exact ⟨0, rfl, by omega, by omega, BP4, ⟨Kd.R_lower HT4.out (by first | exact Nat.le_refl _ | simp)⟩, HB4⟩
  case round =>
    obtain ⟨k, rfl, hk0, hk, HY0, HY1, HB⟩ := hrel
    clear s0 s1 HT4 HU4 HV4 BP4 HB4
    have s0 := cell_two HY0.out 0 rfl
    have s1 := cell_two HY0.out 1 rfl
    by_cases hlt : k < (listS s).length
    · have hlt' : decide (k < (listS s).length) = true := decide_eq_true hlt
      have hx := list_rd pl s h8 HSS.out k hk0 hlt
      have x0 : decide (rd (listS s) k < 0) = false := decide_eq_false (by omega)
      have x1 : decide (pl ≤ rd (listS s) k) = false := decide_eq_false (by omega)
      obtain ⟨ad, e, g0⟩ := Kd.at_int (Kd.R_reads' HY1.out).2.2 k hk0 hlt
      cases e
      by_cases hz : k = 0
      · have hz2 : decide (0 < k) = false := decide_eq_false (by omega)
        clear hk hx hz
        go_wp2_with (fail)
        go_big_region
        go_wp2_with (fail)
        go_roundw
        case rel => exact ⟨k + 1, rfl, by omega, by omega, ⟨blk_drewN HY0.out _⟩, ⟨Kd.R_drewN HY1.out _⟩, ⟨pw_below_drewN HB.out _⟩⟩
        case measure => simp [intOf]; omega
      · have hz1 : (0 : Int) < k := by omega
        have hz2 : decide (0 < k) = true := decide_eq_true hz1
        have hu := list_up s k hz1 hlt
        have x2 : decide (rd (listS s) k ≤ rd (listS s) (k - 1)) = false := decide_eq_false (by omega)
        obtain ⟨ad', e, g1⟩ := Kd.at_int (Kd.R_reads' HY1.out).2.2 (k - 1) (by omega) (by omega)
        cases e
        rw [show (k - 1).toNat = k.toNat - 1 from by omega] at g1
        clear hx hu hz
        go_wp2_with (fail)
        go_big_region
        go_wp2_with (fail)
        go_roundw
        case rel => exact ⟨k + 1, rfl, by omega, by omega, ⟨blk_drewN HY0.out _⟩, ⟨Kd.R_drewN HY1.out _⟩, ⟨pw_below_drewN HB.out _⟩⟩
        case measure => simp [intOf]; omega
    · have hlt' : decide (k < (listS s).length) = false := decide_eq_false hlt
      go_wp2_with (fail)
      refine wp_region_held_drew (S := fun w' => w'.cell? ⟨w.heap.size, 0, none⟩ = some (.int .i64 pl) ∧ w'.cell? ⟨w.heap.size, 1, none⟩ = some (.slice A l.length c)) (by kernel_rfl) (⟨s0, s1⟩) (fun hHeld => ?_)
      refine wpAnyH_take (i := 0) (oi := { dst := some 120, op := Op.move (Operand.tmp 10), type := 28, pos := "outright.go:152", after := #[], guard := none }) (v := ?va0) rfl (by kernel_rfl) (by kernel_rfl) (by kernel_rfl) (fun _ _ _ h => h) (Or.inl ⟨by rfl, ?hya0⟩) (by assumption) ?_
      case hya0 => (intro wq hSw; (try dsimp only at hSw); go_simp; try (with_reducible rfl))
      try simp only [Act.put, List.setIfInBounds_toArray, List.set_cons_zero, List.set_cons_succ]
      refine wpAnyH_take (i := 1) (oi := { dst := some 121, op := Op.binOp BinOp.eql 28 (Operand.tmp 120) (Operand.const (Value.int IntKind.i64 6)) 28, type := 4, pos := "outright.go:152", after := #[{ on := 0, ground := Ground.data }], guard := none }) (v := ?va1) rfl (by kernel_rfl) (by kernel_rfl) (by kernel_rfl) (fun _ _ _ h => h) (Or.inl ⟨by rfl, ?hya1⟩) (by assumption) ?_
      case hya1 => (intro wq hSw; (try dsimp only at hSw); go_simp; try (with_reducible rfl))
      try simp only [Act.put, List.setIfInBounds_toArray, List.set_cons_zero, List.set_cons_succ]
      refine wpAnyH_take (i := 2) (oi := { dst := some 122, op := Op.move (Operand.tmp 121), type := 4, pos := "outright.go:152", after := #[{ on := 1, ground := Ground.data }], guard := none }) (v := ?va2) rfl (by kernel_rfl) (by kernel_rfl) (by kernel_rfl) (fun _ _ _ h => h) (Or.inl ⟨by rfl, ?hya2⟩) (by assumption) ?_
      case hya2 => (intro wq hSw; (try dsimp only at hSw); go_simp; try (with_reducible rfl))
      try simp only [Act.put, List.setIfInBounds_toArray, List.set_cons_zero, List.set_cons_succ]
      refine wpAnyH_take (i := 3) (oi := { dst := some 123, op := Op.load 24 (Operand.tmp 3), type := 24, pos := "outright.go:152", after := #[{ on := 2, ground := Ground.guard }], guard := some (2, true) }) (v := ?va3) rfl (by kernel_rfl) (by kernel_rfl) (by kernel_rfl) (fun _ _ _ h => h) (Or.inl ⟨by rfl, ?hya3⟩) (by assumption) ?_
      case hya3 => (intro wq hSw; (try dsimp only at hSw); go_simp; try (with_reducible rfl))
      try simp only [Act.put, List.setIfInBounds_toArray, List.set_cons_zero, List.set_cons_succ]
      refine wpAnyH_take (i := 4) (oi := { dst := some 124, op := Op.move (Operand.tmp 7), type := 27, pos := "outright.go:152", after := #[{ on := 2, ground := Ground.guard }], guard := some (2, true) }) (v := ?va4) rfl (by kernel_rfl) (by kernel_rfl) (by kernel_rfl) (fun _ _ _ h => h) (Or.inl ⟨by rfl, ?hya4⟩) (by assumption) ?_
      case hya4 => (intro wq hSw; (try dsimp only at hSw); go_simp; try (with_reducible rfl))
      try simp only [Act.put, List.setIfInBounds_toArray, List.set_cons_zero, List.set_cons_succ]
      refine wpAnyH_take (i := 7) (oi := { dst := some 127, op := Op.load 24 (Operand.tmp 3), type := 24, pos := "outright.go:152", after := #[{ on := 2, ground := Ground.guard }], guard := some (2, true) }) (v := ?va7) rfl (by kernel_rfl) (by kernel_rfl) (by kernel_rfl) (fun _ _ _ h => h) (Or.inl ⟨by rfl, ?hya7⟩) (by assumption) ?_
      case hya7 => (intro wq hSw; (try dsimp only at hSw); go_simp; try (with_reducible rfl))
      try simp only [Act.put, List.setIfInBounds_toArray, List.set_cons_zero, List.set_cons_succ]
      refine wpAnyH_take (i := 8) (oi := { dst := some 128, op := Op.move (Operand.tmp 7), type := 27, pos := "outright.go:152", after := #[{ on := 2, ground := Ground.guard }], guard := some (2, true) }) (v := ?va8) rfl (by kernel_rfl) (by kernel_rfl) (by kernel_rfl) (fun _ _ _ h => h) (Or.inl ⟨by rfl, ?hya8⟩) (by assumption) ?_
      case hya8 => (intro wq hSw; (try dsimp only at hSw); go_simp; try (with_reducible rfl))
      try simp only [Act.put, List.setIfInBounds_toArray, List.set_cons_zero, List.set_cons_succ]
      refine wpAnyH_ready (rs := [5]) (by kernel_rfl) (by simp) ?_
      refine AllReadyH.cons (o := { dst := some 125, op := Op.call { callee := Callee.value (Operand.func 26), args := #[Operand.tmp 123, Operand.tmp 124, Operand.const (Value.bool false), Operand.const (Value.int IntKind.i64 (-1))], argTypes := #[24, 27, 4, 3] }, type := 45, pos := "outright.go:152", after := #[{ on := 3, ground := Ground.data }, { on := 4, ground := Ground.data }, { on := 2, ground := Ground.chain }, { on := 2, ground := Ground.guard }], guard := some (2, true) }) rfl (fun K hK => ?_) AllReadyH.nil
      go_simp
      refine (sum_any _ _ false _ _ _ _ _ _ _ (Kd.C_below HR.out HB.out.drew) hc HP.out (Kd.R_reads' (Kd.R_drew HY1.out)).2.2 (Kd.R_reads' HY1.out).2.1 HWS.out).mono ?_
      rintro e W5 ⟨rfl, hb⟩
      have q0 := (hb.cell (World.block_lt_of_cell? _ _ s0)).trans s0
      have q1 := (hb.cell (World.block_lt_of_cell? _ _ s1)).trans s1
      have HY5 := Aside0.mk (Kd.R_below (Kd.R_drew HY1.out) hb)
      have HB5 := Aside0.mk (bl_next HB.out.drew hb)
      clear hb
      refine hK.out _ _ ⟨q0, q1⟩ (fun hHeld => ?_)
      clear hK K
      try simp only [Act.put, List.setIfInBounds_toArray, List.set_cons_zero, List.set_cons_succ]
      refine wpAnyH_take (i := 6) (oi := { dst := some 126, op := Op.field 45 (Operand.tmp 125) 0, type := 3, pos := "outright.go:152", after := #[{ on := 5, ground := Ground.data }, { on := 2, ground := Ground.guard }], guard := some (2, true) }) (v := ?va6) rfl (by kernel_rfl) (by kernel_rfl) (by kernel_rfl) (fun _ _ _ h => h) (Or.inl ⟨by rfl, ?hya6⟩) (by assumption) ?_
      case hya6 => (intro wq hSw; (try dsimp only at hSw); go_simp; try (with_reducible rfl))
      try simp only [Act.put, List.setIfInBounds_toArray, List.set_cons_zero, List.set_cons_succ]
      refine wpAnyH_ready (rs := [9]) (by kernel_rfl) (by simp) ?_
      refine AllReadyH.cons (o := { dst := some 129, op := Op.call { callee := Callee.value (Operand.func 26), args := #[Operand.tmp 127, Operand.tmp 128, Operand.const (Value.bool true), Operand.const (Value.int IntKind.i64 (-1))], argTypes := #[24, 27, 4, 3] }, type := 45, pos := "outright.go:152", after := #[{ on := 7, ground := Ground.data }, { on := 8, ground := Ground.data }, { on := 5, ground := Ground.chain }, { on := 2, ground := Ground.guard }], guard := some (2, true) }) rfl (fun K hK => ?_) AllReadyH.nil
      go_simp
      refine (sum_any _ _ true _ _ _ _ _ _ _ (Kd.C_below HR.out HB5.out) hc HP.out (Kd.R_reads' HY5.out).2.2 (Kd.R_reads' HY5.out).2.1 HWS.out).mono ?_
      rintro e W6 ⟨rfl, hb⟩
      have r0 := (hb.cell (World.block_lt_of_cell? _ _ q0)).trans q0
      have r1 := (hb.cell (World.block_lt_of_cell? _ _ q1)).trans q1
      have HB6 := Aside0.mk (bl_next HB5.out hb)
      clear hb
      refine hK.out _ _ ⟨r0, r1⟩ (fun hHeld => ?_)
      clear hK K
      try simp only [Act.put, List.setIfInBounds_toArray, List.set_cons_zero, List.set_cons_succ]
      refine wpAnyH_take (i := 10) (oi := { dst := some 130, op := Op.field 45 (Operand.tmp 129) 1, type := 3, pos := "outright.go:152", after := #[{ on := 9, ground := Ground.data }, { on := 2, ground := Ground.guard }], guard := some (2, true) }) (v := ?va10) rfl (by kernel_rfl) (by kernel_rfl) (by kernel_rfl) (fun _ _ _ h => h) (Or.inl ⟨by rfl, ?hya10⟩) (by assumption) ?_
      case hya10 => (intro wq hSw; (try dsimp only at hSw); go_simp; try (with_reducible rfl))
      try simp only [Act.put, List.setIfInBounds_toArray, List.set_cons_zero, List.set_cons_succ]
      refine wpAnyH_take (i := 11) (oi := { dst := some 131, op := Op.binOp BinOp.gtr 3 (Operand.tmp 126) (Operand.tmp 130) 3, type := 4, pos := "outright.go:152", after := #[{ on := 6, ground := Ground.data }, { on := 10, ground := Ground.data }, { on := 2, ground := Ground.guard }], guard := some (2, true) }) (v := ?va11) rfl (by kernel_rfl) (by kernel_rfl) (by kernel_rfl) (fun _ _ _ h => h) (Or.inl ⟨by rfl, ?hya11⟩) (by assumption) ?_
      case hya11 => (intro wq hSw; (try dsimp only at hSw); go_simp; try (with_reducible rfl))
      try simp only [Act.put, List.setIfInBounds_toArray, List.set_cons_zero, List.set_cons_succ]
      refine wpAnyH_take (i := 12) (oi := { dst := some 132, op := Op.pick (Operand.tmp 122) (Operand.tmp 131) (Operand.const (Value.bool false)), type := 4, pos := "outright.go:152", after := #[{ on := 2, ground := Ground.data }, { on := 11, ground := Ground.data }], guard := none }) (v := ?va12) rfl (by kernel_rfl) (by kernel_rfl) (by kernel_rfl) (fun _ _ _ h => h) (Or.inl ⟨by rfl, ?hya12⟩) (by assumption) ?_
      case hya12 => (intro wq hSw; (try dsimp only at hSw); go_simp; try (with_reducible rfl))
      try simp only [Act.put, List.setIfInBounds_toArray, List.set_cons_zero, List.set_cons_succ]
      refine wpAnyH_take (i := 13) (oi := { dst := some 133, op := Op.move (Operand.tmp 132), type := 4, pos := "outright.go:152", after := #[{ on := 12, ground := Ground.data }, { on := 9, ground := Ground.chain }], guard := none }) (v := ?va13) rfl (by kernel_rfl) (by kernel_rfl) (by kernel_rfl) (fun _ _ _ h => h) (Or.inl ⟨by rfl, ?hya13⟩) (by assumption) ?_
      case hya13 => (intro wq hSw; (try dsimp only at hSw); go_simp; try (with_reducible rfl))
      try simp only [Act.put, List.setIfInBounds_toArray, List.set_cons_zero, List.set_cons_succ]
      refine wpAnyH_take (i := 14) (oi := { dst := some 134, op := Op.move (Operand.tmp 12), type := 28, pos := "outright.go:152", after := #[{ on := 13, ground := Ground.guard }], guard := some (13, true) }) (v := ?va14) rfl (by kernel_rfl) (by kernel_rfl) (by kernel_rfl) (fun _ _ _ h => h) (Or.inl ⟨by rfl, ?hya14⟩) (by assumption) ?_
      case hya14 => (intro wq hSw; (try dsimp only at hSw); go_simp; try (with_reducible rfl))
      try simp only [Act.put, List.setIfInBounds_toArray, List.set_cons_zero, List.set_cons_succ]
      refine wpAnyH_take (i := 15) (oi := { dst := some 135, op := Op.binOp BinOp.eql 28 (Operand.tmp 134) (Operand.const (Value.int IntKind.i64 6)) 28, type := 4, pos := "outright.go:152", after := #[{ on := 14, ground := Ground.data }, { on := 13, ground := Ground.guard }], guard := some (13, true) }) (v := ?va15) rfl (by kernel_rfl) (by kernel_rfl) (by kernel_rfl) (fun _ _ _ h => h) (Or.inl ⟨by rfl, ?hya15⟩) (by assumption) ?_
      case hya15 => (intro wq hSw; (try dsimp only at hSw); go_simp; try (with_reducible rfl))
      try simp only [Act.put, List.setIfInBounds_toArray, List.set_cons_zero, List.set_cons_succ]
      refine wpAnyH_take (i := 16) (oi := { dst := some 136, op := Op.move (Operand.tmp 135), type := 4, pos := "outright.go:152", after := #[{ on := 15, ground := Ground.data }, { on := 13, ground := Ground.chain }, { on := 13, ground := Ground.guard }], guard := some (13, true) }) (v := ?va16) rfl (by kernel_rfl) (by kernel_rfl) (by kernel_rfl) (fun _ _ _ h => h) (Or.inl ⟨by rfl, ?hya16⟩) (by assumption) ?_
      case hya16 => (intro wq hSw; (try dsimp only at hSw); go_simp; try (with_reducible rfl))
      try simp only [Act.put, List.setIfInBounds_toArray, List.set_cons_zero, List.set_cons_succ]
      refine wpAnyH_take (i := 17) (oi := { dst := some 137, op := Op.move (Operand.tmp 12), type := 28, pos := "outright.go:152", after := #[{ on := 16, ground := Ground.guard }], guard := some (16, false) }) (v := ?va17) rfl (by kernel_rfl) (by kernel_rfl) (by kernel_rfl) (fun _ _ _ h => h) (Or.inl ⟨by rfl, ?hya17⟩) (by assumption) ?_
      case hya17 => (intro wq hSw; (try dsimp only at hSw); go_simp; try (with_reducible rfl))
      try simp only [Act.put, List.setIfInBounds_toArray, List.set_cons_zero, List.set_cons_succ]
      refine wpAnyH_take (i := 18) (oi := { dst := some 138, op := Op.binOp BinOp.eql 28 (Operand.tmp 137) (Operand.const (Value.int IntKind.i64 2)) 28, type := 4, pos := "outright.go:152", after := #[{ on := 17, ground := Ground.data }, { on := 16, ground := Ground.guard }], guard := some (16, false) }) (v := ?va18) rfl (by kernel_rfl) (by kernel_rfl) (by kernel_rfl) (fun _ _ _ h => h) (Or.inl ⟨by rfl, ?hya18⟩) (by assumption) ?_
      case hya18 => (intro wq hSw; (try dsimp only at hSw); go_simp; try (with_reducible rfl))
      try simp only [Act.put, List.setIfInBounds_toArray, List.set_cons_zero, List.set_cons_succ]
      refine wpAnyH_take (i := 19) (oi := { dst := some 139, op := Op.move (Operand.tmp 138), type := 4, pos := "outright.go:152", after := #[{ on := 18, ground := Ground.data }, { on := 16, ground := Ground.chain }, { on := 16, ground := Ground.guard }], guard := some (16, false) }) (v := ?va19) rfl (by kernel_rfl) (by kernel_rfl) (by kernel_rfl) (fun _ _ _ h => h) (Or.inl ⟨by rfl, ?hya19⟩) (by assumption) ?_
      case hya19 => (intro wq hSw; (try dsimp only at hSw); go_simp; try (with_reducible rfl))
      try simp only [Act.put, List.setIfInBounds_toArray, List.set_cons_zero, List.set_cons_succ]
      refine wpAnyH_take (i := 20) (oi := { dst := some 140, op := Op.move (Operand.tmp 1), type := 3, pos := "outright.go:152", after := #[{ on := 19, ground := Ground.guard }], guard := some (19, true) }) (v := ?va20) rfl (by kernel_rfl) (by kernel_rfl) (by kernel_rfl) (fun _ _ _ h => h) (Or.inl ⟨by rfl, ?hya20⟩) (by assumption) ?_
      case hya20 => (intro wq hSw; (try dsimp only at hSw); go_simp; try (with_reducible rfl))
      try simp only [Act.put, List.setIfInBounds_toArray, List.set_cons_zero, List.set_cons_succ]
      refine wpAnyH_take (i := 21) (oi := { dst := some 141, op := Op.binOp BinOp.lss 3 (Operand.tmp 140) (Operand.const (Value.int IntKind.i64 0)) 3, type := 4, pos := "outright.go:152", after := #[{ on := 20, ground := Ground.data }, { on := 19, ground := Ground.guard }], guard := some (19, true) }) (v := ?va21) rfl (by kernel_rfl) (by kernel_rfl) (by kernel_rfl) (fun _ _ _ h => h) (Or.inl ⟨by rfl, ?hya21⟩) (by assumption) ?_
      case hya21 => (intro wq hSw; (try dsimp only at hSw); go_simp; try (with_reducible rfl))
      try simp only [Act.put, List.setIfInBounds_toArray, List.set_cons_zero, List.set_cons_succ]
      refine wpAnyH_take (i := 22) (oi := { dst := some 142, op := Op.move (Operand.tmp 141), type := 4, pos := "outright.go:152", after := #[{ on := 21, ground := Ground.data }, { on := 19, ground := Ground.chain }, { on := 19, ground := Ground.guard }], guard := some (19, true) }) (v := ?va22) rfl (by kernel_rfl) (by kernel_rfl) (by kernel_rfl) (fun _ _ _ h => h) (Or.inl ⟨by rfl, ?hya22⟩) (by assumption) ?_
      case hya22 => (intro wq hSw; (try dsimp only at hSw); go_simp; try (with_reducible rfl))
      try simp only [Act.put, List.setIfInBounds_toArray, List.set_cons_zero, List.set_cons_succ]
      refine wpAnyH_take (i := 23) (oi := { dst := some 143, op := Op.move (Operand.tmp 1), type := 3, pos := "outright.go:152", after := #[{ on := 22, ground := Ground.guard }], guard := some (22, false) }) (v := ?va23) rfl (by kernel_rfl) (by kernel_rfl) (by kernel_rfl) (fun _ _ _ h => h) (Or.inl ⟨by rfl, ?hya23⟩) (by assumption) ?_
      case hya23 => (intro wq hSw; (try dsimp only at hSw); go_simp; try (with_reducible rfl))
      try simp only [Act.put, List.setIfInBounds_toArray, List.set_cons_zero, List.set_cons_succ]
      refine wpAnyH_take (i := 24) (oi := { dst := some 144, op := Op.fieldAddr 24 (Operand.tmp 3) 1, type := 0, pos := "outright.go:152", after := #[{ on := 22, ground := Ground.guard }], guard := some (22, false) }) (v := ?va24) rfl (by kernel_rfl) (by kernel_rfl) (by kernel_rfl) (fun _ _ _ h => h) (Or.inl ⟨by rfl, ?hya24⟩) (by assumption) ?_
      case hya24 => (intro wq hSw; (try dsimp only at hSw); go_simp; try (with_reducible rfl))
      try simp only [Act.put, List.setIfInBounds_toArray, List.set_cons_zero, List.set_cons_succ]
      refine wpAnyH_take (i := 25) (oi := { dst := some 145, op := Op.load 22 (Operand.tmp 144), type := 22, pos := "outright.go:152", after := #[{ on := 24, ground := Ground.data }, { on := 22, ground := Ground.guard }], guard := some (22, false) }) (v := ?va25) rfl (by kernel_rfl) (by kernel_rfl) (by kernel_rfl) (fun _ _ _ h => h) (Or.inl ⟨by rfl, ?hya25⟩) (by assumption) ?_
      case hya25 => (intro wq hSw; (try dsimp only at hSw); go_simp; try (with_reducible rfl))
      try simp only [Act.put, List.setIfInBounds_toArray, List.set_cons_zero, List.set_cons_succ]
      refine wpAnyH_take (i := 26) (oi := { dst := some 146, op := Op.call { callee := Callee.builtin Builtin.len, args := #[Operand.tmp 145], argTypes := #[22] }, type := 3, pos := "outright.go:152", after := #[{ on := 25, ground := Ground.data }, { on := 22, ground := Ground.guard }], guard := some (22, false) }) (v := ?va26) rfl (by kernel_rfl) (by kernel_rfl) (by kernel_rfl) (fun _ _ _ h => h) (Or.inl ⟨by rfl, ?hya26⟩) (by assumption) ?_
      case hya26 => (intro wq hSw; (try dsimp only at hSw); go_simp; try (with_reducible rfl))
      try simp only [Act.put, List.setIfInBounds_toArray, List.set_cons_zero, List.set_cons_succ]
      refine wpAnyH_take (i := 27) (oi := { dst := some 147, op := Op.binOp BinOp.geq 3 (Operand.tmp 143) (Operand.tmp 146) 3, type := 4, pos := "outright.go:152", after := #[{ on := 23, ground := Ground.data }, { on := 26, ground := Ground.data }, { on := 22, ground := Ground.guard }], guard := some (22, false) }) (v := ?va27) rfl (by kernel_rfl) (by kernel_rfl) (by kernel_rfl) (fun _ _ _ h => h) (Or.inl ⟨by rfl, ?hya27⟩) (by assumption) ?_
      case hya27 => (intro wq hSw; (try dsimp only at hSw); go_simp; try (with_reducible rfl))
      try simp only [Act.put, List.setIfInBounds_toArray, List.set_cons_zero, List.set_cons_succ]
      refine wpAnyH_take (i := 28) (oi := { dst := some 148, op := Op.pick (Operand.tmp 142) (Operand.const (Value.bool true)) (Operand.tmp 147), type := 4, pos := "outright.go:152", after := #[{ on := 22, ground := Ground.data }, { on := 27, ground := Ground.data }, { on := 19, ground := Ground.guard }], guard := some (19, true) }) (v := ?va28) rfl (by kernel_rfl) (by kernel_rfl) (by kernel_rfl) (fun _ _ _ h => h) (Or.inl ⟨by rfl, ?hya28⟩) (by assumption) ?_
      case hya28 => (intro wq hSw; (try dsimp only at hSw); go_simp; try (with_reducible rfl))
      try simp only [Act.put, List.setIfInBounds_toArray, List.set_cons_zero, List.set_cons_succ]
      refine wpAnyH_take (i := 29) (oi := { dst := some 149, op := Op.pick (Operand.tmp 139) (Operand.tmp 148) (Operand.const (Value.bool false)), type := 4, pos := "outright.go:152", after := #[{ on := 19, ground := Ground.data }, { on := 28, ground := Ground.data }, { on := 16, ground := Ground.guard }], guard := some (16, false) }) (v := ?va29) rfl (by kernel_rfl) (by kernel_rfl) (by kernel_rfl) (fun _ _ _ h => h) (Or.inl ⟨by rfl, ?hya29⟩) (by assumption) ?_
      case hya29 => (intro wq hSw; (try dsimp only at hSw); go_simp; try (with_reducible rfl))
      try simp only [Act.put, List.setIfInBounds_toArray, List.set_cons_zero, List.set_cons_succ]
      refine wpAnyH_take (i := 30) (oi := { dst := some 150, op := Op.pick (Operand.tmp 136) (Operand.const (Value.bool true)) (Operand.tmp 149), type := 4, pos := "outright.go:152", after := #[{ on := 16, ground := Ground.data }, { on := 29, ground := Ground.data }, { on := 13, ground := Ground.guard }], guard := some (13, true) }) (v := ?va30) rfl (by kernel_rfl) (by kernel_rfl) (by kernel_rfl) (fun _ _ _ h => h) (Or.inl ⟨by rfl, ?hya30⟩) (by assumption) ?_
      case hya30 => (intro wq hSw; (try dsimp only at hSw); go_simp; try (with_reducible rfl))
      try simp only [Act.put, List.setIfInBounds_toArray, List.set_cons_zero, List.set_cons_succ]
      refine wpAnyH_take (i := 31) (oi := { dst := some 151, op := Op.pick (Operand.tmp 133) (Operand.tmp 150) (Operand.const (Value.bool false)), type := 4, pos := "outright.go:152", after := #[{ on := 13, ground := Ground.data }, { on := 30, ground := Ground.data }], guard := none }) (v := ?va31) rfl (by kernel_rfl) (by kernel_rfl) (by kernel_rfl) (fun _ _ _ h => h) (Or.inl ⟨by rfl, ?hya31⟩) (by assumption) ?_
      case hya31 => (intro wq hSw; (try dsimp only at hSw); go_simp; try (with_reducible rfl))
      try simp only [Act.put, List.setIfInBounds_toArray, List.set_cons_zero, List.set_cons_succ]
      refine wpAnyH_take (i := 32) (oi := { dst := some 152, op := Op.move (Operand.tmp 151), type := 4, pos := "outright.go:152", after := #[{ on := 31, ground := Ground.data }, { on := 22, ground := Ground.chain }], guard := none }) (v := ?va32) rfl (by kernel_rfl) (by kernel_rfl) (by kernel_rfl) (fun _ _ _ h => h) (Or.inl ⟨by rfl, ?hya32⟩) (by assumption) ?_
      case hya32 => (intro wq hSw; (try dsimp only at hSw); go_simp; try (with_reducible rfl))
      try simp only [Act.put, List.setIfInBounds_toArray, List.set_cons_zero, List.set_cons_succ]
      refine wpAnyH_ready (rs := [33]) (by kernel_rfl) (by simp) ?_
      refine AllReadyH.cons (o := { dst := some 153, op := Op.call { callee := Callee.value (Operand.func 10), args := #[], argTypes := #[] }, type := 4, pos := "outright.go:152", after := #[{ on := 32, ground := Ground.chain }, { on := 32, ground := Ground.guard }], guard := some (32, true) }) rfl (fun K hK => ?_) AllReadyH.nil
      go_simp
      refine (awake_any _).mono ?_
      rintro e Wz ⟨rfl, hb⟩
      have t0 := (hb.cell (World.block_lt_of_cell? _ _ r0)).trans r0
      have t1 := (hb.cell (World.block_lt_of_cell? _ _ r1)).trans r1
      have HBz := Aside0.mk (bl_next HB6.out hb)
      clear hb
      refine hK.out _ _ ⟨t0, t1⟩ (fun hHeld => ?_)
      clear hK K
      try simp only [Act.put, List.setIfInBounds_toArray, List.set_cons_zero, List.set_cons_succ]
      refine wpAnyH_take (i := 34) (oi := { dst := some 154, op := Op.pick (Operand.tmp 152) (Operand.tmp 153) (Operand.const (Value.bool false)), type := 4, pos := "outright.go:152", after := #[{ on := 32, ground := Ground.data }, { on := 33, ground := Ground.data }], guard := none }) (v := ?va34) rfl (by kernel_rfl) (by kernel_rfl) (by kernel_rfl) (fun _ _ _ h => h) (Or.inl ⟨by rfl, ?hya34⟩) (by assumption) ?_
      case hya34 => (intro wq hSw; (try dsimp only at hSw); go_simp; try (with_reducible rfl))
      try simp only [Act.put, List.setIfInBounds_toArray, List.set_cons_zero, List.set_cons_succ]
      refine wpAnyH_take (i := 35) (oi := { dst := some 6, op := Op.assign (Operand.tmp 154), type := 4, pos := "outright.go:152", after := #[{ on := 34, ground := Ground.data }, { on := 33, ground := Ground.chain }, { on := 0, ground := Ground.phase }, { on := 1, ground := Ground.phase }, { on := 2, ground := Ground.phase }, { on := 3, ground := Ground.phase }, { on := 4, ground := Ground.phase }, { on := 5, ground := Ground.phase }, { on := 6, ground := Ground.phase }, { on := 7, ground := Ground.phase }, { on := 8, ground := Ground.phase }, { on := 9, ground := Ground.phase }, { on := 10, ground := Ground.phase }, { on := 11, ground := Ground.phase }, { on := 12, ground := Ground.phase }, { on := 13, ground := Ground.phase }, { on := 14, ground := Ground.phase }, { on := 15, ground := Ground.phase }, { on := 16, ground := Ground.phase }, { on := 17, ground := Ground.phase }, { on := 18, ground := Ground.phase }, { on := 19, ground := Ground.phase }, { on := 20, ground := Ground.phase }, { on := 21, ground := Ground.phase }, { on := 22, ground := Ground.phase }, { on := 23, ground := Ground.phase }, { on := 24, ground := Ground.phase }, { on := 25, ground := Ground.phase }, { on := 26, ground := Ground.phase }, { on := 27, ground := Ground.phase }, { on := 28, ground := Ground.phase }, { on := 29, ground := Ground.phase }, { on := 30, ground := Ground.phase }, { on := 31, ground := Ground.phase }, { on := 32, ground := Ground.phase }, { on := 33, ground := Ground.phase }, { on := 34, ground := Ground.phase }], guard := none }) (v := ?va35) rfl (by kernel_rfl) (by kernel_rfl) (by kernel_rfl) (fun _ _ _ h => h) (Or.inl ⟨by rfl, ?hya35⟩) (by assumption) ?_
      case hya35 => (intro wq hSw; (try dsimp only at hSw); go_simp; try (with_reducible rfl))
      try simp only [Act.put, List.setIfInBounds_toArray, List.set_cons_zero, List.set_cons_succ]
      refine wpAnyH_done (by kernel_rfl) ?_ _
      go_wp2_with (fail)
      go_ret
      exact ⟨rfl, HBz.out⟩

end Go.Proofs.Ytalgbihpidpblaa.Print
