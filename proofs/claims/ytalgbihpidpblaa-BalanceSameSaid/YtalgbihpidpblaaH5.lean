/- The first set that shows that there is no truth (wrong). -/
import Derived.Test.YtalgbihpidpblaaH4
namespace Go.Proofs.Ytalgbihpidpblaa.Print
open Go.RowKit Go.Shelf Go.Proofs.YtalgbihpidpblaaW.PrintWords Go.Proofs.YtalgbihpidpblaaW.PrintLast Go.Proofs.YtalgbihpidpblaaW.PrintMore
set_option linter.unusedVariables false
set_option linter.unusedSimpArgs false
attribute [local go_sem] Oper.semAt_some

set_option maxHeartbeats 400000 in
theorem sets_any (pl : Int) (v : Value) (w : World) :
    Calls Try.prog 49 #[.agg #[.int .i64 pl, v]] w fun e w' => e = .returned (.func (.func 56) #[] #[.pointer (some ⟨w.heap.size, 0, none⟩)]) ∧ w' = w.alloc (.cells #[.int .i64 pl, v] 24) := by
  go_enter Try.func49, Try.ntmps49
  go_wp2
  go_ret
  exact ⟨rfl, rfl⟩

theorem cell_putObj_other (W : World) {lp q : Nat} (o' : Obj) (u : Nat) (h : q ≠ lp) : (W.putObj lp o').cell? ⟨q, u, none⟩ = W.cell? ⟨q, u, none⟩ := by
  unfold World.cell?
  have : (W.putObj lp o').heap[q]? = W.heap[q]? := by
    simp [World.putObj, Array.getElem?_setIfInBounds, Ne.symm h]
  rw [this]

theorem cell_alloc_o {W : World} (o : Obj) {a : Addr} {v : Value} (h : W.cell? a = some v) : (W.alloc o).cell? a = some v :=
  (((Below.refl _ W).alloc (Nat.le_refl _) o).cell (World.block_lt_of_cell? _ _ h)).trans h
theorem cell_set_other' (W : World) {p q : Nat} (v : Value) (o : Nat) (h : q ≠ p) : (W.setCell ⟨p, 0, none⟩ v).cell? ⟨q, o, none⟩ = W.cell? ⟨q, o, none⟩ := by
  unfold World.cell?
  have : (W.setCell ⟨p, 0, none⟩ v).heap[q]? = W.heap[q]? := by
    simp [World.setCell, Array.getElem?_modify, Ne.symm h]
  rw [this]
theorem cell_set_other (W : World) {p q : Nat} (v : Value) (o : Nat) {u : Value} (h : q ≠ p) (hc : W.cell? ⟨q, o, none⟩ = some u) : (W.setCell ⟨p, 0, none⟩ v).cell? ⟨q, o, none⟩ = some u :=
  (cell_set_other' W v o h).trans hc

theorem keeps_of_below {W W' : World} (h : Below W.heap.size W W') : KeepsOthers W W' :=
  ⟨h.size, fun k o e _ => blk_below e h⟩

def wrongB (l : List S47) (s : Int) : Bool := decide (total s (-1) false false l > total s (-1) true true l)

set_option maxRecDepth 100000 in
set_option maxHeartbeats 2000000 in
theorem wrong_any (pl : Int) (A : Option Addr) (c : Nat) (l : List S47) (w : World) (hr : Kd.C k47 w A l.length l) (hp : isPlantB pl l = true) :
    Calls Try.prog 41 #[.agg #[.int .i64 pl, .slice A l.length c]] w fun e w' =>
      e = .returned (.tuple #[.int .u64 (((setsL pl).find? (wrongB l)).getD 0), .bool ((setsL pl).find? (wrongB l)).isSome]) ∧ Below w.heap.size w w' := by
  obtain ⟨h2, h8, hl, hg⟩ := plant_of pl l hp
  have HG := Aside0.mk hg
  clear hg hp
  have HR := Aside0.mk hr
  clear hr
  refine (callsIn_wide (n := 8)).1 ?_
  refine callsIn_of_wp_marks Try.func41 rfl trivial ?_ rfl
  simp only [Try.ntmps41, List.size_toArray, List.length_cons, List.length_nil, Nat.reduceAdd, Nat.reduceSub, Array.replicate_succ, Array.replicate_zero, List.push_toArray, List.append_toArray, List.nil_append, List.cons_append]
  gi_wp2_with (refine ⟨trivial, ?_⟩; gi_at_call 49; refine (callsIn_wide.2 (sets_any _ _ _)).mono ?_; rintro e w' ⟨rfl, rfl⟩)
  have x0 := blk_new w (.cells #[.int .i64 pl, .slice A l.length c] 24)
  have x1 := blk_new (w.alloc (.cells #[.int .i64 pl, .slice A l.length c] 24)) (.cells #[.int .u64 0] 69)
  have x2 := blk_new ((w.alloc (.cells #[.int .i64 pl, .slice A l.length c] 24)).alloc (.cells #[.int .u64 0] 69)) (.cells #[.bool false] 4)
  have x3 := blk_new (((w.alloc (.cells #[.int .i64 pl, .slice A l.length c] 24)).alloc (.cells #[.int .u64 0] 69)).alloc (.cells #[.bool false] 4)) (.cells #[.int .i64 pl, .slice A l.length c] 24)
  replace x0 := blk_alloc (blk_alloc (blk_alloc x0 (.cells #[.int .u64 0] 69)) (.cells #[.bool false] 4)) (.cells #[.int .i64 pl, .slice A l.length c] 24)
  replace x1 := blk_alloc (blk_alloc x1 (.cells #[.bool false] 4)) (.cells #[.int .i64 pl, .slice A l.length c] 24)
  replace x2 := blk_alloc x2 (.cells #[.int .i64 pl, .slice A l.length c] 24)
  simp only [World.size_alloc] at x1 x2 x3
  have hB0 : Below w.heap.size w ((((w.alloc (.cells #[.int .i64 pl, .slice A l.length c] 24)).alloc (.cells #[.int .u64 0] 69)).alloc (.cells #[.bool false] 4)).alloc (.cells #[.int .i64 pl, .slice A l.length c] 24)) := by
    repeat (first | exact Below.refl _ _ | apply below_alloc)
  have hS0 : ((((w.alloc (.cells #[.int .i64 pl, .slice A l.length c] 24)).alloc (.cells #[.int .u64 0] 69)).alloc (.cells #[.bool false] 4)).alloc (.cells #[.int .i64 pl, .slice A l.length c] 24)).heap.size = w.heap.size + 1 + 1 + 1 + 1 := by simp
  have y0 := blk_cell x0 0
  have y0' := blk_cell x0 1
  have y1 := blk_cell x1 0
  have y2 := blk_cell x2 0
  have y3 := blk_cell x3 0
  have z1 := blk_frozen x1 0
  have z2 := blk_frozen x2 0
  simp only [List.getElem?_toArray, List.getElem?_cons_zero, List.getElem?_cons_succ] at y0 y0' y1 y2 y3
  refine wpIn_rangeFunc_ownF rfl (by omega) (gf := 56) (lb := #[.pointer (some ⟨w.heap.size + 1 + 1 + 1, 0, none⟩)]) rfl trivial (enters_of Try.func56 (by kernel_rfl) rfl)
    (sets_stops Fence.wide 7 trivial rfl (by omega) (w.heap.size + 1 + 1 + 1) pl _ h2 h8 (by rw [hS0]; omega) y3)
    (fun h k o => (k o).trans (h o)) (fun W lp o o' hlp ho ho1 ho2 q => ?kp) (Below.refl _ _) (fun _ => rfl)
    (fun pre W => ((∀ y ∈ pre, wrongB l y = false) ∧ W.cell? ⟨w.heap.size, 0, none⟩ = some (.int .i64 pl) ∧ W.cell? ⟨w.heap.size, 1, none⟩ = some (.slice A l.length c) ∧ W.cell? ⟨w.heap.size + 1, 0, none⟩ = some (.int .u64 0) ∧ W.frozen? ⟨w.heap.size + 1, 0, none⟩ = false ∧ W.cell? ⟨w.heap.size + 1 + 1, 0, none⟩ = some (.bool false) ∧ W.frozen? ⟨w.heap.size + 1 + 1, 0, none⟩ = false ∧ W.cell? ⟨w.heap.size + 1 + 1 + 1, 0, none⟩ = some (.int .i64 pl)) ∧ Below w.heap.size w W)
    (fun cd pre W => (cd = .ret ∧ ∃ s, pre.find? (wrongB l) = some s ∧ W.cell? ⟨w.heap.size + 1, 0, none⟩ = some (.int .u64 s) ∧ W.cell? ⟨w.heap.size + 1 + 1, 0, none⟩ = some (.bool true)) ∧ Below w.heap.size w W)
    (OwnFrom.and (Own.from (fun s A B row hs hg hr => ⟨hs.1, cell_kept hs.2.1 hg hr, cell_kept hs.2.2.1 hg hr, cell_kept hs.2.2.2.1 hg hr, (frozen_kept hs.2.2.2.1 hg hr).trans hs.2.2.2.2.1, cell_kept hs.2.2.2.2.2.1 hg hr, (frozen_kept hs.2.2.2.2.2.1 hg hr).trans hs.2.2.2.2.2.2.1, cell_kept hs.2.2.2.2.2.2.2 hg hr⟩) _) (ownFrom_below (Nat.le_refl _) (by rw [hS0]; omega)))
    (fun cd => OwnFrom.and (Own.from (fun s A B row hs hg hr => ⟨hs.1, hs.2.choose, hs.2.choose_spec.1, cell_kept hs.2.choose_spec.2.1 hg hr, cell_kept hs.2.choose_spec.2.2 hg hr⟩) _) (ownFrom_below (Nat.le_refl _) (by rw [hS0]; omega)))
    ⟨⟨by simp, y0, y0', y1, z1, y2, z2, y3⟩, hB0⟩
    (fun x => { tmps := #[.agg #[.int .i64 pl, .slice A l.length c], .pointer (some ⟨w.heap.size, 0, none⟩), .pointer (some ⟨w.heap.size + 1, 0, none⟩), .pointer (some ⟨w.heap.size + 1 + 1, 0, none⟩), .int .u64 x, undef, .agg #[.int .i64 pl, .slice A l.length c], .func (.func 56) #[] #[.pointer (some ⟨w.heap.size + 1 + 1 + 1, 0, none⟩)], .int .u64 x, undef, undef, undef, undef, undef, undef, undef, undef, undef, undef, undef], defers := [] }) ?assign ?body ?done ?stop
  case kp =>
    have hne : w.heap.size + 1 + 1 + 1 ≠ lp := by rw [hS0] at hlp; omega
    exact cell_putObj_other W o' q hne
  case assign =>
    intro lp x W K hK
    gi_wp2
    exact hK
  case body =>
    clear x0 x1 x2 x3 hB0 hS0 z1 z2 y0 y0' y1 y2 y3
    rintro lp pre x W ⟨⟨hp, c0, c1, c2, c3, c4, c5, c6⟩, hB⟩ _
    have HP := Aside0.mk hp
    have HB := Aside0.mk hB
    clear hp hB
    by_cases hw : wrongB l x = true
    · have hd : decide (total x (-1) true true l < total x (-1) false false l) = true := hw
      have HW := Aside0.mk hw
      clear hw
      gi_wp2_with (refine ⟨trivial, ?_⟩; gi_at_call 51; refine (CallsIn.inRound lp (callsIn_wide.2 (sides_any _ _ _ _ _ _ _ (Kd.C_below HR.out HB.out) hl HG.out))).mono ?_; rintro e W' ⟨rfl, hb⟩; have d2 := (hb.cell (World.block_lt_of_cell? _ _ c2)).trans c2; have d3 := (hb.frozen (p := ⟨w.heap.size + 1, 0, none⟩) (World.block_lt_of_cell? _ _ c2)).trans c3; have d4 := (hb.cell (World.block_lt_of_cell? _ _ c4)).trans c4; have d5 := (hb.frozen (p := ⟨w.heap.size + 1 + 1, 0, none⟩) (World.block_lt_of_cell? _ _ c4)).trans c5; have s2 := World.block_lt_of_cell? _ _ d2; have s4 := World.block_lt_of_cell? _ _ d4; have HBB := Aside0.mk hb; clear hb)
      have hbw := HB.out.trans (HBB.out.mono HB.out.size)
      refine ⟨(((keeps_of_below HBB.out).trans (KeepsOthers.setCell _ _ _)).trans (KeepsOthers.setCell _ _ _)).trans (KeepsOthers.alloc _ _), ⟨rfl, x, ?_, ?_, ?_⟩, ?_⟩
      · rw [List.find?_append, List.find?_eq_none.2 (fun y hy => by rw [HP.out y hy]; simp)]
        simp [HW.out]
      · refine cell_alloc_o _ (cell_set_other _ _ _ (by simp) (World.cell?_setCell_same' _ _ _ (by rw [d2]; rfl)))
      · refine cell_alloc_o _ (World.cell?_setCell_same' _ _ _ ?_)
        rw [cell_set_other' _ _ _ (by simp), d4]; rfl
      · have k1 : w.heap.size ≤ w.heap.size + 1 := by omega
        have k2 : w.heap.size ≤ w.heap.size + 1 + 1 := by omega
        repeat (first | exact hbw | apply below_alloc | refine below_set ?_ k1 | refine below_set ?_ k2)
    · have hw' : wrongB l x = false := by simpa using hw
      have hd : decide (total x (-1) true true l < total x (-1) false false l) = false := hw'
      have HW := Aside0.mk hw'
      clear hw hw'
      gi_wp2_with (refine ⟨trivial, ?_⟩; gi_at_call 51; refine (CallsIn.inRound lp (callsIn_wide.2 (sides_any _ _ _ _ _ _ _ (Kd.C_below HR.out HB.out) hl HG.out))).mono ?_; rintro e W' ⟨rfl, hb⟩; have d2 := (hb.cell (World.block_lt_of_cell? _ _ c2)).trans c2; have d3 := (hb.frozen (p := ⟨w.heap.size + 1, 0, none⟩) (World.block_lt_of_cell? _ _ c2)).trans c3; have d4 := (hb.cell (World.block_lt_of_cell? _ _ c4)).trans c4; have d5 := (hb.frozen (p := ⟨w.heap.size + 1 + 1, 0, none⟩) (World.block_lt_of_cell? _ _ c4)).trans c5; have s2 := World.block_lt_of_cell? _ _ d2; have s4 := World.block_lt_of_cell? _ _ d4; have HBB := Aside0.mk hb; clear hb)
      have hb2 : Below W.heap.size W (W'.alloc (Obj.cells #[Value.int IntKind.i64 (total x (-1) false false l), Value.int IntKind.i64 (total x (-1) false true l), Value.int IntKind.i64 (total x (-1) true false l), Value.int IntKind.i64 (total x (-1) true true l)] 83)) := by
        repeat (first | exact HBB.out | apply below_alloc)
      refine ⟨keeps_of_below hb2, fun o => hb2.cell (p := ⟨w.heap.size + 1 + 1 + 1, o, none⟩) (World.block_lt_of_cell? W ⟨w.heap.size + 1 + 1 + 1, 0, none⟩ c6), ⟨?_, ?_, ?_, ?_, ?_, ?_, ?_, ?_⟩, HB.out.trans (hb2.mono HB.out.size)⟩
      · intro y hy
        rcases List.mem_append.1 hy with h | h
        · exact HP.out y h
        · simp at h; subst h; exact HW.out
      · exact (hb2.cell (World.block_lt_of_cell? _ _ c0)).trans c0
      · exact (hb2.cell (World.block_lt_of_cell? _ _ c1)).trans c1
      · exact (hb2.cell (World.block_lt_of_cell? _ _ c2)).trans c2
      · exact (hb2.frozen (p := ⟨_, 0, none⟩) (World.block_lt_of_cell? _ _ c2)).trans c3
      · exact (hb2.cell (World.block_lt_of_cell? _ _ c4)).trans c4
      · exact (hb2.frozen (p := ⟨_, 0, none⟩) (World.block_lt_of_cell? _ _ c4)).trans c5
      · exact (hb2.cell (World.block_lt_of_cell? _ _ c6)).trans c6
  case done =>
    rintro D ys W hD rfl ⟨⟨hp, c0, c1, c2, c3, c4, c5, c6⟩, hB⟩ hK
    have hnone : (setsL pl).find? (wrongB l) = none := List.find?_eq_none.2 (fun y hy => by rw [hp y hy]; simp)
    have HN := Aside0.mk hnone
    have HBW := Aside0.mk hB
    have HKW := Aside0.mk hK
    clear hp hB hK hnone x0 x1 x2 x3 hB0 z1 z2 y0 y0' y1 y2 y3
    gi_wp2
    have hK' := ((KeepsOthers.setCell W ⟨w.heap.size + 1, 0, none⟩ (.int .u64 0)).trans (KeepsOthers.setCell _ ⟨w.heap.size + 1 + 1, 0, none⟩ (.bool false))).same D _ HKW.out rfl
    have e2 := cell_set_other ((W.setCell ⟨w.heap.size + 1, 0, none⟩ (.int .u64 0))) (p := w.heap.size + 1 + 1) (q := w.heap.size + 1) (.bool false) 0 (by simp) (World.cell?_setCell_same' W ⟨w.heap.size + 1, 0, none⟩ (.int .u64 0) (by rw [c2]; rfl))
    have e4 := World.cell?_setCell_same' (W.setCell ⟨w.heap.size + 1, 0, none⟩ (.int .u64 0)) ⟨w.heap.size + 1 + 1, 0, none⟩ (.bool false) (by rw [cell_set_other' _ _ _ (by simp), c4]; rfl)
    refine ⟨by simp, .inl ⟨_, _, rfl, run_takeDeferred hK', ?_⟩⟩
    have g2 := cell_kept e2 (grownBy_putObj' _ D (.deferred none)) (fun r e => by cases e; exact ⟨_, hK', rfl⟩)
    have g4 := cell_kept e4 (grownBy_putObj' _ D (.deferred none)) (fun r e => by cases e; exact ⟨_, hK', rfl⟩)
    refine ⟨.tuple #[.int .u64 0, .bool false], ?_, by rw [HN.out]; rfl, ?_⟩
    · simp [results, Try.f41, go_sem, g2, g4]
    · have k1 : w.heap.size ≤ w.heap.size + 1 := by omega
      have k2 : w.heap.size ≤ w.heap.size + 1 + 1 := by omega
      refine Below.trans (below_set (below_set HBW.out k1) k2) (belowK_b (w := w) (Nat.le_refl _) _ D _ _ ?_ hK' rfl rfl)
      rw [hS0] at hD
      omega
  case stop =>
    rintro D cd pre W hD ⟨s, hs, rfl⟩ ⟨⟨rfl, z, hz, c2, c4⟩, hB⟩ hK
    have hsome : (setsL pl).find? (wrongB l) = some z := by
      have h := List.take_append_drop (s + 1) (setsL pl)
      rw [← h, List.find?_append, hz]
      rfl
    have HN := Aside0.mk hsome
    have HBW := Aside0.mk hB
    clear hsome hz hB x0 x1 x2 x3 hB0 z1 z2 y0 y0' y1 y2 y3
    gi_wp2
    refine ⟨by simp, .inl ⟨_, _, rfl, run_takeDeferred hK, ?_⟩⟩
    have g2 := cell_kept c2 (grownBy_putObj' _ D (.deferred none)) (fun r e => by cases e; exact ⟨_, hK, rfl⟩)
    have g4 := cell_kept c4 (grownBy_putObj' _ D (.deferred none)) (fun r e => by cases e; exact ⟨_, hK, rfl⟩)
    refine ⟨.tuple #[.int .u64 z, .bool true], ?_, by rw [HN.out]; rfl, ?_⟩
    · simp [results, Try.f41, go_sem, g2, g4]
    · refine Below.trans HBW.out (belowK_b (w := w) (Nat.le_refl _) _ D _ _ ?_ hK rfl rfl)
      rw [hS0] at hD
      omega

def balance_wrong.f (a0_0 : Int) (l0_1 : List (S47)) : Option (Int × Bool) :=
  if isPlantB a0_0 l0_1 = true then some (((setsL a0_0).find? (wrongB l0_1)).getD 0, ((setsL a0_0).find? (wrongB l0_1)).isSome) else none

theorem balance_wrong.calls (a0_0 : Int) (A0_1 : Option Addr) (c0_1 : Nat) (l0_1 : List (S47)) (r1 : Int) (r2 : Bool) (w : World) (hr0_1 : Kd.C k47 w A0_1 l0_1.length l0_1) (hc0_1 : l0_1.length ≤ c0_1) (h : balance_wrong.f a0_0 l0_1 = some (r1, r2)) :
    Calls Try.prog 41 #[.agg #[.int .i64 a0_0, .slice A0_1 l0_1.length c0_1]] w fun e w' => e = .returned (.tuple #[.int .u64 r1, .bool r2]) ∧ Below w.heap.size w w' := by
  unfold balance_wrong.f at h
  by_cases hp : isPlantB a0_0 l0_1 = true
  · rw [if_pos hp] at h
    simp only [Option.some.injEq, Prod.mk.injEq] at h
    obtain ⟨rfl, rfl⟩ := h
    exact wrong_any _ _ _ _ _ hr0_1 hp
  · rw [if_neg hp] at h
    cases h
end Go.Proofs.Ytalgbihpidpblaa.Print
