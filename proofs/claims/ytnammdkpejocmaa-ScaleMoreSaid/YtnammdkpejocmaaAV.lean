/- The law's fixed results: 'alive' is true. -/
import Derived.Test.YtnammdkpejocmaaLX
namespace Go.Proofs.Ytnammdkpejocmaa.Print
open Go.RowKit Go.Proofs.YtnammdkpejocmaaW.PrintWords Go.Proofs.YtnammdkpejocmaaW.PrintLast Go.Proofs.YtnammdkpejocmaaW.PrintMore
set_option linter.unusedVariables false
set_option linter.unusedSimpArgs false
attribute [local go_sem] Oper.semAt_some
/-- What the example's act looks like in its block. -/
abbrev exC : Obj := .cells #[.int .i64 48, .int .i64 1000, .int .i64 4, .int .i64 25, .int .i64 500, .int .i64 1] 23
structure AliveAt (w W : World) (g : Nat) (A2 A3 : Option Addr) (c2 c3 : Nat) : Prop where
  act : W.heap[g]? = some (.cells #[.int .i64 48, .int .i64 1000, .int .i64 4, .int .i64 25, .int .i64 500, .int .i64 1] 23 (0, 0))
  yrs : Kd.C k47 W A2 5 exL
  pay : Kd.C k45 W A3 5 exP
  h2 : 5 ≤ c2
  h3 : 5 ≤ c3
  bel : Below w.heap.size w W
theorem AliveAt.next {w W W' : World} {g : Nat} {A2 A3 : Option Addr} {c2 c3 : Nat} (h : AliveAt w W g A2 A3 c2 c3) (hb : Below W.heap.size W W') : AliveAt w W' g A2 A3 c2 c3 where
  act := blk_below h.act hb
  yrs := Kd.C_below h.yrs hb
  pay := Kd.C_below h.pay hb
  h2 := h.h2
  h3 := h.h3
  bel := bl_next' h.bel hb
theorem AliveAt.start {w W1 : World} {A2 A3 : Option Addr} {c2 c3 : Nat} (hb : Below w.heap.size w W1) (h2 : Kd.C k47 W1 A2 exL.length exL) (h3 : Kd.C k45 W1 A3 exP.length exP) (l2 : exL.length ≤ c2) (l3 : exP.length ≤ c3) : AliveAt w (W1.alloc exC) W1.heap.size A2 A3 c2 c3 where
  act := blk_new W1 exC
  yrs := Kd.C_alloc h2 _
  pay := Kd.C_alloc h3 _
  h2 := l2
  h3 := l3
  bel := below_alloc hb _
set_option maxHeartbeats 4000000 in
theorem alive_any (w : World) : Calls Try.prog 14 #[] w fun e w' => e = .returned (.bool true) ∧ Below w.heap.size w w' := by
  have HR1 := Aside0.mk (fun W => (by have := Rate_any exA 45 W; rw [exRate1] at this; exact this : Calls Try.prog 10 #[.agg #[.int .i64 48, .int .i64 1000, .int .i64 4, .int .i64 25, .int .i64 500, .int .i64 1], .int .i64 45] W fun e w' => e = .returned (.tuple #[.int .i64 1000, .int .i64 0]) ∧ Below W.heap.size W w'))
  have HR2 := Aside0.mk (fun W => (by have := Rate_any exA 53 W; rw [exRate2] at this; exact this : Calls Try.prog 10 #[.agg #[.int .i64 48, .int .i64 1000, .int .i64 4, .int .i64 25, .int .i64 500, .int .i64 1], .int .i64 53] W fun e w' => e = .returned (.tuple #[.int .i64 950, .int .i64 0]) ∧ Below W.heap.size W w'))
  have HD := Aside0.mk (fun W => by have := Dearest_any exA 950 W; rw [exDear] at this; exact this)
  have HRun := Aside0.mk (fun (W : World) A c (hr : Kd.C k47 W A 5 exL) (hc : 5 ≤ c) => by have := Run_any exA A c exL W hr hc; rw [exRun] at this; exact this)
  have HChk := Aside0.mk (fun (W : World) A A2 c c2 (hr : Kd.C k47 W A 5 exL) (hc : 5 ≤ c) (hr2 : Kd.C k45 W A2 5 exP) (hc2 : 5 ≤ c2) => by have := Check_any exA A A2 c c2 exL exP W hr hc hr2 hc2; rw [exCheck] at this; exact this)
  have HNeed := Aside0.mk (fun (W : World) A c (hr : Kd.C k47 W A 5 exL) (hc : 5 ≤ c) => by have := Needed_any exA A c exL 4 W hr hc; rw [exNeed] at this; exact this)
  have HS := Aside0.mk (gasworkslaw13_sample.calls 48 1000 4 25 500 1 exL exP w rfl)
  have HB0 := Aside0.mk (Below.refl w.heap.size w)
  go_enter Try.func14, Try.ntmps14
  go_wp2_with (first
    | (go_at_call 22; refine HS.out.mono ?_; rintro e W1 ⟨v6, v7, rfl, h6, h7, hb⟩; obtain ⟨A2, c2, rfl, hc2, hC2⟩ := Kd.R_reads h6; obtain ⟨A3, c3, rfl, hc3, hC3⟩ := Kd.R_reads h7; have HA := Aside0.mk hC2; have HP := Aside0.mk hC3; have HC2 := Aside0.mk hc2; have HC3 := Aside0.mk hc3; have HB1 := Aside0.mk hb; clear h6 h7 hC2 hC3 hc2 hc3 hb)
    | (go_at_call 10; with_reducible refine (HR1.out _).mono ?_; rintro e W2 ⟨rfl, hb⟩; have H2 := Aside0.mk ((AliveAt.start HB1.out HA.out HP.out HC2.out HC3.out).next hb); clear hb; have s0 : W2.cell? ⟨W1.heap.size, 0, none⟩ = some (.int .i64 48) := cell_two H2.out.act 0 rfl; have s1 : W2.cell? ⟨W1.heap.size, 1, none⟩ = some (.int .i64 1000) := cell_two H2.out.act 1 rfl; have s2 : W2.cell? ⟨W1.heap.size, 2, none⟩ = some (.int .i64 4) := cell_two H2.out.act 2 rfl; have s3 : W2.cell? ⟨W1.heap.size, 3, none⟩ = some (.int .i64 25) := cell_two H2.out.act 3 rfl; have s4 : W2.cell? ⟨W1.heap.size, 4, none⟩ = some (.int .i64 500) := cell_two H2.out.act 4 rfl; have s5 : W2.cell? ⟨W1.heap.size, 5, none⟩ = some (.int .i64 1) := cell_two H2.out.act 5 rfl)
    | (go_at_call 10; with_reducible refine (HR2.out _).mono ?_; rintro e W3 ⟨rfl, hb⟩; have H3 := Aside0.mk (H2.out.next hb); clear hb; clear s0 s1 s2 s3 s4 s5; have s0 : W3.cell? ⟨W1.heap.size, 0, none⟩ = some (.int .i64 48) := cell_two H3.out.act 0 rfl; have s1 : W3.cell? ⟨W1.heap.size, 1, none⟩ = some (.int .i64 1000) := cell_two H3.out.act 1 rfl; have s2 : W3.cell? ⟨W1.heap.size, 2, none⟩ = some (.int .i64 4) := cell_two H3.out.act 2 rfl; have s3 : W3.cell? ⟨W1.heap.size, 3, none⟩ = some (.int .i64 25) := cell_two H3.out.act 3 rfl; have s4 : W3.cell? ⟨W1.heap.size, 4, none⟩ = some (.int .i64 500) := cell_two H3.out.act 4 rfl; have s5 : W3.cell? ⟨W1.heap.size, 5, none⟩ = some (.int .i64 1) := cell_two H3.out.act 5 rfl)
    | (go_at_call 12; refine (HD.out _).mono ?_; rintro e W4 ⟨rfl, hb⟩; have H4 := Aside0.mk (H3.out.next hb); clear hb; clear s0 s1 s2 s3 s4 s5; have s0 : W4.cell? ⟨W1.heap.size, 0, none⟩ = some (.int .i64 48) := cell_two H4.out.act 0 rfl; have s1 : W4.cell? ⟨W1.heap.size, 1, none⟩ = some (.int .i64 1000) := cell_two H4.out.act 1 rfl; have s2 : W4.cell? ⟨W1.heap.size, 2, none⟩ = some (.int .i64 4) := cell_two H4.out.act 2 rfl; have s3 : W4.cell? ⟨W1.heap.size, 3, none⟩ = some (.int .i64 25) := cell_two H4.out.act 3 rfl; have s4 : W4.cell? ⟨W1.heap.size, 4, none⟩ = some (.int .i64 500) := cell_two H4.out.act 4 rfl; have s5 : W4.cell? ⟨W1.heap.size, 5, none⟩ = some (.int .i64 1) := cell_two H4.out.act 5 rfl)
    | (go_at_call 15; refine (HRun.out _ _ _ H4.out.yrs H4.out.h2).mono ?_; rintro e W5 ⟨v8, rfl, hR, hb⟩; obtain ⟨A8, c8, rfl, hc8, hC8⟩ := Kd.R_reads hR; have HC8 := Aside0.mk hC8; have Hc8 := Aside0.mk hc8; have H5 := Aside0.mk (H4.out.next hb); clear hb hR hC8 hc8; clear s0 s1 s2 s3 s4 s5; have s0 : W5.cell? ⟨W1.heap.size, 0, none⟩ = some (.int .i64 48) := cell_two H5.out.act 0 rfl; have s1 : W5.cell? ⟨W1.heap.size, 1, none⟩ = some (.int .i64 1000) := cell_two H5.out.act 1 rfl; have s2 : W5.cell? ⟨W1.heap.size, 2, none⟩ = some (.int .i64 4) := cell_two H5.out.act 2 rfl; have s3 : W5.cell? ⟨W1.heap.size, 3, none⟩ = some (.int .i64 25) := cell_two H5.out.act 3 rfl; have s4 : W5.cell? ⟨W1.heap.size, 4, none⟩ = some (.int .i64 500) := cell_two H5.out.act 4 rfl; have s5 : W5.cell? ⟨W1.heap.size, 5, none⟩ = some (.int .i64 1) := cell_two H5.out.act 5 rfl)
    | (go_at_call 17; refine (HChk.out _ _ _ _ _ H5.out.yrs H5.out.h2 H5.out.pay H5.out.h3).mono ?_; rintro e W6 ⟨rfl, hb⟩; have H6 := Aside0.mk (H5.out.next hb); have HC9 := Aside0.mk (Kd.C_below HC8.out hb); clear hb; clear s0 s1 s2 s3 s4 s5; have s0 : W6.cell? ⟨W1.heap.size, 0, none⟩ = some (.int .i64 48) := cell_two H6.out.act 0 rfl; have s1 : W6.cell? ⟨W1.heap.size, 1, none⟩ = some (.int .i64 1000) := cell_two H6.out.act 1 rfl; have s2 : W6.cell? ⟨W1.heap.size, 2, none⟩ = some (.int .i64 4) := cell_two H6.out.act 2 rfl; have s3 : W6.cell? ⟨W1.heap.size, 3, none⟩ = some (.int .i64 25) := cell_two H6.out.act 3 rfl; have s4 : W6.cell? ⟨W1.heap.size, 4, none⟩ = some (.int .i64 500) := cell_two H6.out.act 4 rfl; have s5 : W6.cell? ⟨W1.heap.size, 5, none⟩ = some (.int .i64 1) := cell_two H6.out.act 5 rfl)
    | (go_at_call 19; refine (HNeed.out _ _ _ H6.out.yrs H6.out.h2).mono ?_; rintro e W7 ⟨rfl, hb⟩; have H7 := Aside0.mk (H6.out.next hb); have HC10 := Aside0.mk (Kd.C_below HC9.out hb); clear hb; clear s0 s1 s2 s3 s4 s5)
    | (go_at_call 21; refine (gasworksref13_Payments.calls 100 _ _ exP _ _ exP true _ H7.out.pay H7.out.h3 HC10.out Hc8.out (Pay_fk 0 exP (by decide))).mono ?_; rintro e W8 ⟨rfl, hb⟩; have H8 := Aside0.mk (H7.out.next hb.below); clear hb))
  go_ret
  exact ⟨rfl, H8.out.bel⟩
end Go.Proofs.Ytnammdkpejocmaa.Print
