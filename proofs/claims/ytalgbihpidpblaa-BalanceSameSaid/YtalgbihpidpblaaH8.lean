/- How much a flow can be (tight). -/
import Derived.Test.YtalgbihpidpblaaH7
namespace Go.Proofs.Ytalgbihpidpblaa.Print
open Go.RowKit Go.Shelf Go.Proofs.YtalgbihpidpblaaW.PrintWords Go.Proofs.YtalgbihpidpblaaW.PrintLast Go.Proofs.YtalgbihpidpblaaW.PrintMore
set_option linter.unusedVariables false
set_option linter.unusedSimpArgs false

theorem index66_0 (w : World) : (Instr.index 66 (.agg #[.func (.func 43) #[] #[], .func (.func 44) #[] #[], .func (.func 45) #[] #[], .func (.func 46) #[] #[], .func (.func 47) #[] #[], .func (.func 48) #[] #[]]) (.int .i64 0)).run Try.prog w = .ok (.agg #[.func (.func 43) #[] #[], .func (.func 44) #[] #[], .func (.func 45) #[] #[]]) w := by kernel_rfl
theorem index66_1 (w : World) : (Instr.index 66 (.agg #[.func (.func 43) #[] #[], .func (.func 44) #[] #[], .func (.func 45) #[] #[], .func (.func 46) #[] #[], .func (.func 47) #[] #[], .func (.func 48) #[] #[]]) (.int .i64 1)).run Try.prog w = .ok (.agg #[.func (.func 46) #[] #[], .func (.func 47) #[] #[], .func (.func 48) #[] #[]]) w := by kernel_rfl

set_option maxRecDepth 100000 in
set_option maxHeartbeats 2000000 in
theorem tight_any (pl : Int) (A : Option Addr) (c : Nat) (l : List S47) (k : Int) (w : World) (hr : Kd.C k47 w A l.length l) (hp : isPlantB pl l = true) (hk0 : 0 ≤ k) (hk : k < l.length) :
    Calls Try.prog 29 #[.agg #[.int .i64 pl, .slice A l.length c], .int .i64 k] w fun e w' =>
      e = .returned (.agg #[.int .i64 (boundS false pl l k).1, .int .i64 (boundS true pl l k).1]) ∧ Below w.heap.size w w' := by
  have HR := Aside0.mk hr
  clear hr
  have HP := Aside0.mk hp
  clear hp
  have i0 := index66_0
  have i1 := index66_1
  go_enter Try.func29, Try.ntmps29
  go_wp2_with (fail)
  have x0 := blk_alloc (blk_new w (.cells #[.int .i64 pl, .slice A l.length c] 24)) (.cells #[.int .i64 0, .int .i64 0] 45)
  have x1 := blk_new (w.alloc (.cells #[.int .i64 pl, .slice A l.length c] 24)) (.cells #[.int .i64 0, .int .i64 0] 45)
  rw [World.size_alloc] at x1
  have hB : Below w.heap.size w ((w.alloc (.cells #[.int .i64 pl, .slice A l.length c] 24)).alloc (.cells #[.int .i64 0, .int .i64 0] 45)) := by repeat (first | exact Below.refl _ _ | apply below_alloc)
  generalize ((w.alloc (.cells #[.int .i64 pl, .slice A l.length c] 24)).alloc (.cells #[.int .i64 0, .int .i64 0] 45)) = W0 at *
  have c0 := cell_two x0 0 rfl
  have c1 := cell_two x0 1 rfl
  have HX1 := Aside0.mk x1
  have HB := Aside0.mk hB
  clear x0 x1 hB
  go_region_held3 (fun w' => w'.cell? ⟨w.heap.size, 0, none⟩ = some (.int .i64 pl) ∧ w'.cell? ⟨w.heap.size, 1, none⟩ = some (.slice A l.length c)) (go_keep)
    (first
      | (go_at_call 32; refine (ends32 _).mono ?_; rintro e W1 ⟨rfl, hb⟩; have s0 := (hb.cell (World.block_lt_of_cell? _ _ c0)).trans c0; have s1 := (hb.cell (World.block_lt_of_cell? _ _ c1)).trans c1; have HB1 := Aside0.mk hb; clear hb)
      | (go_at_call 33; refine (bound_least _ _ _ _ _ _ (Kd.C_below HR.out (HB.out.drew.trans (HB1.out.mono HB.out.size))) HP.out hk0 hk).mono ?_; rintro e W2 ⟨rfl, hb⟩; have r0 := (hb.cell (World.block_lt_of_cell? _ _ s0)).trans s0; have r1 := (hb.cell (World.block_lt_of_cell? _ _ s1)).trans s1; have HB2 := Aside0.mk hb; clear hb))
  go_wp2_with (fail)
  have HX2 := Aside0.mk (blk_below (blk_below (blk_drew HX1.out) HB1.out) HB2.out)
  have HBa := Aside0.mk (HB.out.drew.trans ((HB1.out.trans (HB2.out.mono HB1.out.size)).mono HB.out.size))
  have HBw := HBa
  clear HX1 HB HB1 HB2 HBa s0 s1 c0 c1
  go_region_held3 (fun w' => w'.cell? ⟨w.heap.size, 0, none⟩ = some (.int .i64 pl) ∧ w'.cell? ⟨w.heap.size, 1, none⟩ = some (.slice A l.length c)) (go_keep)
    (first
      | (go_at_call 32; refine (ends32 _).mono ?_; rintro e W1 ⟨rfl, hb⟩; have s0 := (hb.cell (World.block_lt_of_cell? _ _ r0)).trans r0; have s1 := (hb.cell (World.block_lt_of_cell? _ _ r1)).trans r1; have HB1 := Aside0.mk hb; clear hb)
      | (go_at_call 33; refine (bound_most _ _ _ _ _ _ (Kd.C_below HR.out (HBw.out.drew.trans (HB1.out.mono HBw.out.size))) HP.out hk0 hk).mono ?_; rintro e W3 ⟨rfl, hb⟩; have q0 := (hb.cell (World.block_lt_of_cell? _ _ s0)).trans s0; have q1 := (hb.cell (World.block_lt_of_cell? _ _ s1)).trans s1; have HB2 := Aside0.mk hb; clear hb))
  have HX3 := Aside0.mk (blk_below (blk_below (blk_drew HX2.out) HB1.out) HB2.out)
  have HBa := Aside0.mk (HBw.out.drew.trans ((HB1.out.trans (HB2.out.mono HB1.out.size)).mono HBw.out.size))
  clear HX2 HBw HB1 HB2 s0 s1 r0 r1
  have k0 := blk_cell HX3.out 0
  have k1 := blk_cell HX3.out 1
  have f0 := blk_frozen HX3.out 0
  have f1 := blk_frozen HX3.out 1
  simp only [List.getElem?_toArray, List.getElem?_cons_zero, List.getElem?_cons_succ] at k0 k1
  go_wp2_with (fail)
  refine bodyPost_ret (results_cell_row rfl _ _ (w.heap.size + 1) 45 #[.int .i64 (boundS false pl l k).1, .int .i64 (boundS true pl l k).1] (0, 0) _ rfl (blk_put (blk_put HX3.out 0 _ rfl) 1 _ rfl) Try.underlying45 rfl (by kernel_rfl)) rfl ?_
  have hk : w.heap.size ≤ w.heap.size + 1 := by omega
  exact ⟨rfl, below_set (below_set HBa.out hk) hk⟩

def balance_tight.f (a0_0 : Int) (l0_1 : List (S47)) (a1 : Int) : Option (Int × Int) :=
  if isPlantB a0_0 l0_1 = true ∧ 0 ≤ a1 ∧ a1 < l0_1.length then some ((boundS false a0_0 l0_1 a1).1, (boundS true a0_0 l0_1 a1).1) else none

theorem balance_tight.calls (a0_0 : Int) (A0_1 : Option Addr) (c0_1 : Nat) (l0_1 : List (S47)) (a1 : Int) (r1 : Int) (r2 : Int) (w : World) (hr0_1 : Kd.C k47 w A0_1 l0_1.length l0_1) (hc0_1 : l0_1.length ≤ c0_1) (h : balance_tight.f a0_0 l0_1 a1 = some (r1, r2)) :
    Calls Try.prog 29 #[.agg #[.int .i64 a0_0, .slice A0_1 l0_1.length c0_1], .int .i64 a1] w fun e w' => e = .returned (.agg #[.int .i64 r1, .int .i64 r2]) ∧ Below w.heap.size w w' := by
  unfold balance_tight.f at h
  split at h
  · rename_i hp
    simp only [Option.some.injEq, Prod.mk.injEq] at h
    obtain ⟨rfl, rfl⟩ := h
    exact tight_any _ _ _ _ _ _ hr0_1 hp.1 hp.2.1 hp.2.2
  · cases h
end Go.Proofs.Ytalgbihpidpblaa.Print
