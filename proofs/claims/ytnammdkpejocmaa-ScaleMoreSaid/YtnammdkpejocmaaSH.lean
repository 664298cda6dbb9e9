/- A year of the company. -/
import Derived.Test.YtnammdkpejocmaaSG
import Derived.BigRegion
namespace Go.Proofs.Ytnammdkpejocmaa.Print
open Go.RowKit Go.Proofs.YtnammdkpejocmaaW.PrintWords Go.Proofs.YtnammdkpejocmaaW.PrintLast Go.Proofs.YtnammdkpejocmaaW.PrintMore
set_option linter.unusedVariables false
set_option linter.unusedSimpArgs false
attribute [local go_sem] max2_mx min2_mn max_two min_two

theorem cs_ne (w : World) {g o o' : Nat} (v : Value) (h : o ≠ o') : (w.setCell ⟨g, o, none⟩ v).cell? ⟨g, o', none⟩ = w.cell? ⟨g, o', none⟩ :=
  World.cell?_setCell_other w ⟨g, o, none⟩ ⟨g, o', none⟩ v (fun e => h (by injection e))
theorem blk_set_ne' {W : World} {g k : Nat} {o : Option Obj} (h : W.heap[k]? = o) (hne : g ≠ k) (j : Nat) (u : Value) : (W.setCell ⟨g, j, none⟩ u).heap[k]? = o :=
  (Below.heap_setCell W ⟨g, j, none⟩ u k (fun e => hne e.symm)).trans h
structure YearR where
  p : S45
  bal : Int
  arr : List Int
def yearP (a : S23) (bal : Int) (arr : List Int) (y : S47) : YearR :=
  let due := dueP a y
  let b1 := bal + y.f2
  let paid := mx 0 (mn (due + sumI arr) b1)
  let b2 := b1 - paid
  let arr2 := settleL a.f5 arr due paid
  let rebate := mx 0 (b2 - a.f4)
  ⟨⟨rateP a y.f0, due, paid, sumI arr2, b2 - rebate, rebate⟩, b2 - rebate, arr2⟩
theorem wrote_new {P Q j : Nat} {W A : World} (h : W.grownBy A (some P)) (hQ : W.heap.size ≤ Q) (v : Value) : W.grownBy (A.setCell ⟨Q, j, none⟩ v) (some P) :=
  ⟨h.os, h.tape, h.output, by simpa [World.setCell] using h.size, fun k hk hne => (Below.heap_setCell A _ _ k (fun e => by have : k = Q := e; omega)).trans (h.block k hk hne)⟩
theorem CompAt.far {base : Nat} {W : World} {P Q j t : Nat} {cs : Array Value} {a : S23} {bal : Int} {A : Option Addr} {n c : Nat} {arr : List Int} (h : CompAt base W P a bal A n c arr) (hQ : W.heap[Q]? = some (.cells cs t (0, 0))) (h1 : t ≠ 67) (h2 : t ≠ 3) (v : Value) : CompAt base (W.setCell ⟨Q, j, none⟩ v) P a bal A n c arr where
  blk := blk_set_ne' h.blk (blk_ne hQ h.blk h1) j v
  len := h.len
  cap := h.cap
  arr := h.arr.kept (fun g cs' hg => blk_set_ne' hg (blk_ne hQ hg h2) j v)
  ge := h.ge
theorem CompAt.bal {base : Nat} {W : World} {P : Nat} {a : S23} {b b' : Int} {A : Option Addr} {n c : Nat} {arr : List Int} (h : CompAt base W P a b A n c arr) : CompAt base (W.setCell ⟨P, 6, none⟩ (.int .i64 b')) P a b' A n c arr where
  blk := blk_put h.blk 6 _ rfl
  len := h.len
  cap := h.cap
  arr := h.arr.kept (fun g cs' hg => blk_set_ne' hg (blk_ne h.blk hg (by decide)) 6 _)
  ge := h.ge

theorem settle_bounds (back : Int) (arr : List Int) (due paid : Int) (hb : ∀ x ∈ arr, 0 ≤ x ∧ x ≤ 1099511627776) (hd : 0 ≤ due ∧ due ≤ 1099511627776) (hp : 0 ≤ paid) : (∀ x ∈ settleL back arr due paid, 0 ≤ x ∧ x ≤ 1099511627776) ∧ (settleL back arr due paid).length ≤ arr.length + 1 := by
  constructor
  · intro x hx
    have hx := List.mem_of_mem_drop hx
    unfold nextL at hx
    rcases List.mem_append.1 hx with hx | hx
    · exact payL_bounds _ arr _ hb (by unfold mx; split <;> omega) x hx
    · simp only [List.mem_singleton] at hx
      subst hx
      unfold mx; split <;> omega
  · unfold settleL nextL
    rw [List.length_drop, List.length_append, payL_len]
    simp only [List.length_cons, List.length_nil]
    omega
def YearPost (base : Nat) (W : World) (P : Nat) (a : S23) (r : YearR) (e : Ending) (w' : World) : Prop :=
  e = .returned (.agg #[.int .i64 r.p.f0, .int .i64 r.p.f1, .int .i64 r.p.f2, .int .i64 r.p.f3, .int .i64 r.p.f4, .int .i64 r.p.f5]) ∧ W.grownBy w' (some P) ∧ ∃ A n c, CompAt base w' P a r.bal A n c r.arr
set_option maxHeartbeats 8000000 in
theorem year_any (base : Nat) (W : World) (P : Nat) (a : S23) (bal : Int) (A : Option Addr) (n c : Nat) (arr : List Int) (y : S47) (h : CompAt base W P a bal A n c arr) (ha : actB a = true) (hy : badY y = false) (hn : n ≤ 50) (hb : ∀ x ∈ arr, 0 ≤ x ∧ x ≤ 1099511627776) (hbal : -17592186044416 ≤ bal ∧ bal ≤ 17592186044416) :
    Calls Try.prog 44 #[.pointer (some ⟨P, 0, none⟩), yearV y, .func (.func 36) #[.pointer (some ⟨P, 0, none⟩)] #[]] W (YearPost base W P a (yearP a bal arr y)) := by
  obtain ⟨y0, y1, y2, y3, y4, y5⟩ := year_of hy
  have H1 := Aside0.mk (h.below (below_alloc (below_alloc (Below.refl _ _) (.cells #[.int .i64 y.f0, .int .i64 y.f1, .int .i64 y.f2] 47)) (.cells #[.int .i64 0, .int .i64 0, .int .i64 0, .int .i64 0, .int .i64 0, .int .i64 0] 45)))
  have BY1 := Aside0.mk (blk_alloc (blk_new W (.cells #[.int .i64 y.f0, .int .i64 y.f1, .int .i64 y.f2] 47)) (.cells #[.int .i64 0, .int .i64 0, .int .i64 0, .int .i64 0, .int .i64 0, .int .i64 0] 45))
  have BQ1 : Aside0 (((W.alloc (.cells #[.int .i64 y.f0, .int .i64 y.f1, .int .i64 y.f2] 47)).alloc (.cells #[.int .i64 0, .int .i64 0, .int .i64 0, .int .i64 0, .int .i64 0, .int .i64 0] 45)).heap[W.heap.size + 1]? = some (.cells #[.int .i64 0, .int .i64 0, .int .i64 0, .int .i64 0, .int .i64 0, .int .i64 0] 45)) := ⟨by have := blk_new (W.alloc (.cells #[.int .i64 y.f0, .int .i64 y.f1, .int .i64 y.f2] 47)) (.cells #[.int .i64 0, .int .i64 0, .int .i64 0, .int .i64 0, .int .i64 0, .int .i64 0] 45); rwa [World.size_alloc] at this⟩
  have HB1 := Aside0.mk (below_alloc (below_alloc (Below.refl W.heap.size W) (.cells #[.int .i64 y.f0, .int .i64 y.f1, .int .i64 y.f2] 47)) (.cells #[.int .i64 0, .int .i64 0, .int .i64 0, .int .i64 0, .int .i64 0, .int .i64 0] 45))
  obtain ⟨c0, c1, c2, c3, c4, c5, _, _⟩ := comp_cells H1.out
  have s0 : ((W.alloc (.cells #[.int .i64 y.f0, .int .i64 y.f1, .int .i64 y.f2] 47)).alloc (.cells #[.int .i64 0, .int .i64 0, .int .i64 0, .int .i64 0, .int .i64 0, .int .i64 0] 45)).cell? ⟨W.heap.size, 0, none⟩ = some (.int .i64 y.f0) := cell_two BY1.out 0 rfl
  have s1 : ((W.alloc (.cells #[.int .i64 y.f0, .int .i64 y.f1, .int .i64 y.f2] 47)).alloc (.cells #[.int .i64 0, .int .i64 0, .int .i64 0, .int .i64 0, .int .i64 0, .int .i64 0] 45)).cell? ⟨W.heap.size, 1, none⟩ = some (.int .i64 y.f1) := cell_two BY1.out 1 rfl
  have s2 : ((W.alloc (.cells #[.int .i64 y.f0, .int .i64 y.f1, .int .i64 y.f2] 47)).alloc (.cells #[.int .i64 0, .int .i64 0, .int .i64 0, .int .i64 0, .int .i64 0, .int .i64 0] 45)).cell? ⟨W.heap.size, 2, none⟩ = some (.int .i64 y.f2) := cell_two BY1.out 2 rfl
  have q0 := cell_two BQ1.out 0 rfl
  have q1 := cell_two BQ1.out 1 rfl
  have f0 := blk_frozen BQ1.out 0
  have f1 := blk_frozen BQ1.out 1
  have hPlt := blk_lt h.blk
  have hne1 : P ≠ W.heap.size + 1 := by omega
  have hne2 : W.heap.size + 1 ≠ P := by omega
  have HH := Aside0.mk h
  have HBD := Aside0.mk hb
  clear h hb
  have hbd := sumI_bounds 1099511627776 arr HBD.out
  have HLN := Aside0.mk HH.out.len
  have hb2 : (arr.length : Int) * 1099511627776 ≤ 50 * 1099511627776 := by have := HLN.out; omega
  obtain ⟨d0, d1, d2, d3⟩ := due_bounds (a := a) y2 y3
  obtain ⟨sm, hsm⟩ : ∃ sm, sm = sumI arr := ⟨_, rfl⟩
  rw [← hsm] at hbd
  obtain ⟨due, hdue⟩ : ∃ due, due = dueP a y := ⟨_, rfl⟩
  rw [← hdue] at d2 d3
  obtain ⟨b1, hb1⟩ : ∃ b1, b1 = bal + y.f2 := ⟨_, rfl⟩
  obtain ⟨paid, hpaid⟩ : ∃ paid, paid = mx 0 (mn (due + sm) b1) := ⟨_, rfl⟩
  have p0 : 0 ≤ paid := by rw [hpaid]; unfold mx; split <;> omega
  have p1 : paid ≤ due + sm := by rw [hpaid]; unfold mx mn; split <;> split <;> omega
  obtain ⟨b2, hb2'⟩ : ∃ b2, b2 = b1 - paid := ⟨_, rfl⟩
  obtain ⟨arr2, harr2⟩ : ∃ arr2, arr2 = settleL a.f5 arr due paid := ⟨_, rfl⟩
  obtain ⟨hs1, hs2⟩ := settle_bounds a.f5 arr due paid HBD.out ⟨d2, d3⟩ p0
  rw [← harr2] at hs1 hs2
  have HS1 := Aside0.mk hs1
  have hbs := sumI_bounds 1099511627776 arr2 hs1
  obtain ⟨sm2, hsm2⟩ : ∃ sm2, sm2 = sumI arr2 := ⟨_, rfl⟩
  obtain ⟨reb, hreb⟩ : ∃ reb, reb = mx 0 (b2 - a.f4) := ⟨_, rfl⟩
  have r0 : 0 ≤ reb := by rw [hreb]; unfold mx; split <;> omega
  have r1 : reb ≤ mx 0 b2 := by rw [hreb]; obtain ⟨_, _, _, _, _, _, _, _, m0, _, _, _⟩ := act_of ha; unfold mx; split <;> split <;> omega
  have r2 : mx 0 b2 ≤ 35184372088832 := by unfold mx; split <;> omega
  obtain ⟨_, _, _, _, _, _, _, _, m0, m1, _, _⟩ := act_of ha
  have HY : Aside0 (yearP a bal arr y = ⟨⟨rateP a y.f0, due, paid, sm2, b2 - reb, reb⟩, b2 - reb, arr2⟩) := ⟨by
    unfold yearP
    simp only [← hdue, ← hsm, ← hb1, ← hpaid, ← hb2', ← harr2, ← hsm2, ← hreb]⟩
  have w1 : wrap64 (bal + y.f2) = b1 := by rw [← hb1]; unfold wrap64; omega
  have w2 : wrap64 (due + sm) = due + sm := by unfold wrap64; omega
  have w3 : mx 0 (mn (due + sm) b1) = paid := hpaid.symm
  have w4 : wrap64 (b1 - paid) = b2 := by rw [← hb2']; unfold wrap64; omega
  have w5 : wrap64 (b2 - a.f4) = b2 - a.f4 := by unfold wrap64; omega
  have w6 : mx 0 (b2 - a.f4) = reb := hreb.symm
  have w7 : wrap64 (b2 - reb) = b2 - reb := by unfold wrap64; omega
  have v1 : IntKind.i64.wrap (bal + y.f2) = b1 := (i64_w _).trans w1
  have v2 : IntKind.i64.wrap (due + sm) = due + sm := (i64_w _).trans w2
  have v4 : IntKind.i64.wrap (b1 - paid) = b2 := (i64_w _).trans w4
  have v5 : IntKind.i64.wrap (b2 - a.f4) = b2 - a.f4 := (i64_w _).trans w5
  have v7 : IntKind.i64.wrap (b2 - reb) = b2 - reb := (i64_w _).trans w7
  have HSM := Aside0.mk hsm
  have HSM2 := Aside0.mk hsm2
  have HDU := Aside0.mk hdue
  have HA2 := Aside0.mk harr2
  have HHS2 := Aside0.mk hs2
  have hp2 : paid ≤ 1125899906842624 := by omega
  clear hsm hsm2 hdue harr2 hb1 hpaid hb2' hreb hs1 hbd hb2 hbs r1 r2 p1 d0 d1
  have HDUE : Aside0 (∀ W, CompAt base W P a bal A n c arr → Calls Try.prog 36 #[.pointer (some ⟨P, 0, none⟩), yearV y] W fun e w' => e = .returned (.int .i64 due) ∧ Below W.heap.size W w') := ⟨fun W h => by rw [HDU.out]; exact due_any base W P a bal A n c arr y h ha hy⟩
  have HOW : Aside0 (∀ W b A n c, CompAt base W P a b A n c arr → Calls Try.prog 37 #[.pointer (some ⟨P, 0, none⟩)] W fun e w' => e = .returned (.int .i64 sm) ∧ W = w') := ⟨fun W b A n' c h => by rw [HSM.out]; exact owed_any base W P a b A n' c arr h (by have := h.len; have := HLN.out; omega) HBD.out⟩
  have HOW2 : Aside0 (∀ W b A n c, CompAt base W P a b A n c arr2 → Calls Try.prog 37 #[.pointer (some ⟨P, 0, none⟩)] W fun e w' => e = .returned (.int .i64 sm2) ∧ W = w') := ⟨fun W b A n' c h => by rw [HSM2.out]; exact owed_any base W P a b A n' c arr2 h (by have := h.len; have := HHS2.out; have := HLN.out; omega) HS1.out⟩
  have HSET : Aside0 (∀ W b, CompAt base W P a b A n c arr → Calls Try.prog 47 #[.pointer (some ⟨P, 0, none⟩), .int .i64 due, .int .i64 paid] W (SetPost base W P a b arr2)) := ⟨fun W b h => by rw [HA2.out]; exact settle_any base W P a b A n c arr due paid h ha (by omega) HBD.out ⟨d2, d3⟩ ⟨p0, hp2⟩⟩
  go_enter Try.func44, Try.ntmps44
  go_wp2_with (fail)
  go_region_held3 (fun w' => w'.cell? ⟨W.heap.size, 0, none⟩ = some (.int .i64 y.f0) ∧ w'.cell? ⟨W.heap.size, 1, none⟩ = some (.int .i64 y.f1) ∧ w'.cell? ⟨W.heap.size, 2, none⟩ = some (.int .i64 y.f2) ∧ w'.cell? ⟨P, 0, none⟩ = some (.int .i64 a.f0) ∧ w'.cell? ⟨P, 1, none⟩ = some (.int .i64 a.f1) ∧ w'.cell? ⟨P, 2, none⟩ = some (.int .i64 a.f2) ∧ w'.cell? ⟨P, 3, none⟩ = some (.int .i64 a.f3) ∧ w'.cell? ⟨P, 4, none⟩ = some (.int .i64 a.f4) ∧ w'.cell? ⟨P, 5, none⟩ = some (.int .i64 a.f5)) (go_keep)
    (first | (go_at_call 27; refine (rate_any a _ _ ha y0 y1).mono ?_; rintro e W1 ⟨rfl, hb⟩; have H2 := Aside0.mk (CompAt.below (by first | exact H1.out.drew | exact H1.out) hb); have BY2 := Aside0.mk (blk_below (by first | exact blk_drew BY1.out | exact BY1.out) hb); have BQ2 := Aside0.mk (blk_below (by first | exact blk_drew BQ1.out | exact BQ1.out) hb); have HB2 := Aside0.mk (bl_next' (by first | exact below_drew1 HB1.out | exact HB1.out) hb); clear hb; clear c0 c1 c2 c3 c4 c5 s0 s1 s2 q0 q1 f0 f1 H1 BY1 BQ1 HB1; have H1 := H2; have BY1 := BY2; have BQ1 := BQ2; have HB1 := HB2; clear H2 BY2 BQ2 HB2; obtain ⟨c0, c1, c2, c3, c4, c5, _, _⟩ := comp_cells H1.out; have s0 : W1.cell? ⟨W.heap.size, 0, none⟩ = some (.int .i64 y.f0) := cell_two BY1.out 0 rfl; have s1 : W1.cell? ⟨W.heap.size, 1, none⟩ = some (.int .i64 y.f1) := cell_two BY1.out 1 rfl; have s2 : W1.cell? ⟨W.heap.size, 2, none⟩ = some (.int .i64 y.f2) := cell_two BY1.out 2 rfl; have q0 := cell_two BQ1.out 0 rfl; have q1 := cell_two BQ1.out 1 rfl; have f0 := blk_frozen BQ1.out 0; have f1 := blk_frozen BQ1.out 1) | (go_at_call 36; refine (HDUE.out _ H1.out).mono ?_; rintro e W2 ⟨rfl, hb⟩; have H2 := Aside0.mk (CompAt.below (by first | exact H1.out.drew | exact H1.out) hb); have BY2 := Aside0.mk (blk_below (by first | exact blk_drew BY1.out | exact BY1.out) hb); have BQ2 := Aside0.mk (blk_below (by first | exact blk_drew BQ1.out | exact BQ1.out) hb); have HB2 := Aside0.mk (bl_next' (by first | exact below_drew1 HB1.out | exact HB1.out) hb); clear hb; clear c0 c1 c2 c3 c4 c5 s0 s1 s2 q0 q1 f0 f1 H1 BY1 BQ1 HB1; have H1 := H2; have BY1 := BY2; have BQ1 := BQ2; have HB1 := HB2; clear H2 BY2 BQ2 HB2; obtain ⟨c0, c1, c2, c3, c4, c5, _, _⟩ := comp_cells H1.out; have s0 : W2.cell? ⟨W.heap.size, 0, none⟩ = some (.int .i64 y.f0) := cell_two BY1.out 0 rfl; have s1 : W2.cell? ⟨W.heap.size, 1, none⟩ = some (.int .i64 y.f1) := cell_two BY1.out 1 rfl; have s2 : W2.cell? ⟨W.heap.size, 2, none⟩ = some (.int .i64 y.f2) := cell_two BY1.out 2 rfl; have q0 := cell_two BQ1.out 0 rfl; have q1 := cell_two BQ1.out 1 rfl; have f0 := blk_frozen BQ1.out 0; have f1 := blk_frozen BQ1.out 1))
  have H := Aside0.mk (CompAt.far (j := 1) (CompAt.far (j := 0) H1.out BQ1.out (by decide) (by decide) (.int .i64 (rateP a y.f0))) (blk_set BQ1.out 0 _) (by decide) (by decide) (.int .i64 due))
  have BY := Aside0.mk (blk_set_ne' (blk_set_ne' BY1.out (by omega : W.heap.size + 1 ≠ W.heap.size) 0 (.int .i64 (rateP a y.f0))) (by omega : W.heap.size + 1 ≠ W.heap.size) 1 (.int .i64 due))
  have BQ : Aside0 (((W2.setCell ⟨W.heap.size + 1, 0, none⟩ (.int .i64 (rateP a y.f0))).setCell ⟨W.heap.size + 1, 1, none⟩ (.int .i64 due)).heap[W.heap.size + 1]? = some (.cells #[.int .i64 (rateP a y.f0), .int .i64 due, .int .i64 0, .int .i64 0, .int .i64 0, .int .i64 0] 45 (0, 0))) := ⟨blk_put (blk_put BQ1.out 0 _ rfl) 1 _ rfl⟩
  have G := Aside0.mk (wrote_new (P := P) (j := 1) (wrote_new (P := P) (j := 0) (wrote_below HB1.out) (by omega : W.heap.size ≤ W.heap.size + 1) (.int .i64 (rateP a y.f0))) (by omega : W.heap.size ≤ W.heap.size + 1) (.int .i64 due))
  clear c0 c1 c2 c3 c4 c5 s0 s1 s2 q0 q1 f0 f1 H1 BY1 BQ1 HB1
  generalize (W2.setCell ⟨W.heap.size + 1, 0, none⟩ (.int .i64 (rateP a y.f0))).setCell ⟨W.heap.size + 1, 1, none⟩ (.int .i64 due) = V1 at H BY BQ G ⊢
  obtain ⟨c0, c1, c2, c3, c4, c5, c6, c7⟩ := comp_cells H.out
  have cf6 := blk_frozen H.out.blk 6
  have s0 : V1.cell? ⟨W.heap.size, 0, none⟩ = some (.int .i64 y.f0) := cell_two BY.out 0 rfl
  have s1 : V1.cell? ⟨W.heap.size, 1, none⟩ = some (.int .i64 y.f1) := cell_two BY.out 1 rfl
  have s2 : V1.cell? ⟨W.heap.size, 2, none⟩ = some (.int .i64 y.f2) := cell_two BY.out 2 rfl
  have q0 : V1.cell? ⟨W.heap.size + 1, 0, none⟩ = some (.int .i64 (rateP a y.f0)) := cell_two BQ.out 0 rfl
  have q1 : V1.cell? ⟨W.heap.size + 1, 1, none⟩ = some (.int .i64 due) := cell_two BQ.out 1 rfl
  have q2 : V1.cell? ⟨W.heap.size + 1, 2, none⟩ = some (.int .i64 0) := cell_two BQ.out 2 rfl
  have q3 : V1.cell? ⟨W.heap.size + 1, 3, none⟩ = some (.int .i64 0) := cell_two BQ.out 3 rfl
  have q4 : V1.cell? ⟨W.heap.size + 1, 4, none⟩ = some (.int .i64 0) := cell_two BQ.out 4 rfl
  have q5 : V1.cell? ⟨W.heap.size + 1, 5, none⟩ = some (.int .i64 0) := cell_two BQ.out 5 rfl
  have f0 := blk_frozen BQ.out 0
  have f1 := blk_frozen BQ.out 1
  have f2 := blk_frozen BQ.out 2
  have f3 := blk_frozen BQ.out 3
  have f4 := blk_frozen BQ.out 4
  have f5 := blk_frozen BQ.out 5
  go_wp2_with (fail)
  go_big_region
  clear c0 c1 c2 c3 c4 c5 c6 c7 cf6 s0 s1 s2 q0 q1 q2 q3 q4 q5 f0 f1 f2 f3 f4 f5
  have H' := Aside0.mk (CompAt.bal (b' := b1) H.out)
  have BY' := Aside0.mk (blk_set_ne' BY.out (by omega : P ≠ W.heap.size) 6 (.int .i64 b1))
  have BQ' := Aside0.mk (blk_set_ne' BQ.out hne1 6 (.int .i64 b1))
  have G' := Aside0.mk (wrote_trans G.out (wrote_set (j := 6) (.int .i64 b1)))
  have H'' := Aside0.mk H'.out.drew
  have BY'' := Aside0.mk (blk_drew BY'.out)
  have BQ'' := Aside0.mk (blk_drew BQ'.out)
  have G'' := Aside0.mk (wrote_trans G'.out (wrote_below (below_drew1 (Below.refl _ _))))
  clear H' BY' BQ' G'
  have H' := H''
  have BY' := BY''
  have BQ' := BQ''
  have G' := G''
  clear H'' BY'' BQ'' G''
  clear H BY BQ G
  generalize ((V1.setCell ⟨P, 6, none⟩ (.int .i64 b1))).drew = V2 at H' BY' BQ' G' ⊢
  have H := H'
  have BY := BY'
  have BQ := BQ'
  have G := G'
  clear H' BY' BQ' G'
  obtain ⟨c0, c1, c2, c3, c4, c5, c6, c7⟩ := comp_cells H.out
  have cf6 := blk_frozen H.out.blk 6
  have s0 : V2.cell? ⟨W.heap.size, 0, none⟩ = some (.int .i64 y.f0) := cell_two BY.out 0 rfl
  have s1 : V2.cell? ⟨W.heap.size, 1, none⟩ = some (.int .i64 y.f1) := cell_two BY.out 1 rfl
  have s2 : V2.cell? ⟨W.heap.size, 2, none⟩ = some (.int .i64 y.f2) := cell_two BY.out 2 rfl
  have q0 : V2.cell? ⟨W.heap.size + 1, 0, none⟩ = some (.int .i64 (rateP a y.f0)) := cell_two BQ.out 0 rfl
  have q1 : V2.cell? ⟨W.heap.size + 1, 1, none⟩ = some (.int .i64 due) := cell_two BQ.out 1 rfl
  have q2 : V2.cell? ⟨W.heap.size + 1, 2, none⟩ = some (.int .i64 0) := cell_two BQ.out 2 rfl
  have q3 : V2.cell? ⟨W.heap.size + 1, 3, none⟩ = some (.int .i64 0) := cell_two BQ.out 3 rfl
  have q4 : V2.cell? ⟨W.heap.size + 1, 4, none⟩ = some (.int .i64 0) := cell_two BQ.out 4 rfl
  have q5 : V2.cell? ⟨W.heap.size + 1, 5, none⟩ = some (.int .i64 0) := cell_two BQ.out 5 rfl
  have f0 := blk_frozen BQ.out 0
  have f1 := blk_frozen BQ.out 1
  have f2 := blk_frozen BQ.out 2
  have f3 := blk_frozen BQ.out 3
  have f4 := blk_frozen BQ.out 4
  have f5 := blk_frozen BQ.out 5
  go_wp2_with (fail)
  go_region_held3 (fun w' => w'.cell? ⟨W.heap.size + 1, 1, none⟩ = some (.int .i64 due) ∧ w'.cell? ⟨P, 6, none⟩ = some (.int .i64 b1)) ((first | (go_keep; done) | (simp [*, World.cell?_alloc_some, World.cell?_setCell_far, cs_ne]; done))) ((go_at_call 37; refine (HOW.out _ _ _ _ _ (by first | exact H.out | exact H.out.drew)).mono ?_; rintro e w' ⟨rfl, rfl⟩))
  clear c0 c1 c2 c3 c4 c5 c6 c7 cf6 s0 s1 s2 q0 q1 q2 q3 q4 q5 f0 f1 f2 f3 f4 f5
  have H' := Aside0.mk (CompAt.far (j := 2) H.out BQ.out (by decide) (by decide) (.int .i64 paid))
  have BY' := Aside0.mk (blk_set_ne' BY.out (by omega : W.heap.size + 1 ≠ W.heap.size) 2 (.int .i64 paid))
  have BQ' : Aside0 ((V2.setCell ⟨W.heap.size + 1, 2, none⟩ (.int .i64 paid)).heap[W.heap.size + 1]? = some (.cells #[.int .i64 (rateP a y.f0), .int .i64 due, .int .i64 paid, .int .i64 0, .int .i64 0, .int .i64 0] 45 (0, 0))) := ⟨blk_put BQ.out 2 _ rfl⟩
  have G' := Aside0.mk (wrote_new (P := P) (j := 2) G.out (by omega : W.heap.size ≤ W.heap.size + 1) (.int .i64 paid))
  have H'' := Aside0.mk H'.out.drew
  have BY'' := Aside0.mk (blk_drew BY'.out)
  have BQ'' := Aside0.mk (blk_drew BQ'.out)
  have G'' := Aside0.mk (wrote_trans G'.out (wrote_below (below_drew1 (Below.refl _ _))))
  clear H' BY' BQ' G'
  have H' := H''
  have BY' := BY''
  have BQ' := BQ''
  have G' := G''
  clear H'' BY'' BQ'' G''
  clear H BY BQ G
  generalize ((V2.setCell ⟨W.heap.size + 1, 2, none⟩ (.int .i64 paid))).drew = V3 at H' BY' BQ' G' ⊢
  have H := H'
  have BY := BY'
  have BQ := BQ'
  have G := G'
  clear H' BY' BQ' G'
  obtain ⟨c0, c1, c2, c3, c4, c5, c6, c7⟩ := comp_cells H.out
  have cf6 := blk_frozen H.out.blk 6
  have s0 : V3.cell? ⟨W.heap.size, 0, none⟩ = some (.int .i64 y.f0) := cell_two BY.out 0 rfl
  have s1 : V3.cell? ⟨W.heap.size, 1, none⟩ = some (.int .i64 y.f1) := cell_two BY.out 1 rfl
  have s2 : V3.cell? ⟨W.heap.size, 2, none⟩ = some (.int .i64 y.f2) := cell_two BY.out 2 rfl
  have q0 : V3.cell? ⟨W.heap.size + 1, 0, none⟩ = some (.int .i64 (rateP a y.f0)) := cell_two BQ.out 0 rfl
  have q1 : V3.cell? ⟨W.heap.size + 1, 1, none⟩ = some (.int .i64 due) := cell_two BQ.out 1 rfl
  have q2 : V3.cell? ⟨W.heap.size + 1, 2, none⟩ = some (.int .i64 paid) := cell_two BQ.out 2 rfl
  have q3 : V3.cell? ⟨W.heap.size + 1, 3, none⟩ = some (.int .i64 0) := cell_two BQ.out 3 rfl
  have q4 : V3.cell? ⟨W.heap.size + 1, 4, none⟩ = some (.int .i64 0) := cell_two BQ.out 4 rfl
  have q5 : V3.cell? ⟨W.heap.size + 1, 5, none⟩ = some (.int .i64 0) := cell_two BQ.out 5 rfl
  have f0 := blk_frozen BQ.out 0
  have f1 := blk_frozen BQ.out 1
  have f2 := blk_frozen BQ.out 2
  have f3 := blk_frozen BQ.out 3
  have f4 := blk_frozen BQ.out 4
  have f5 := blk_frozen BQ.out 5
  go_wp2_with (fail)
  go_big_region
  clear c0 c1 c2 c3 c4 c5 c6 c7 cf6 s0 s1 s2 q0 q1 q2 q3 q4 q5 f0 f1 f2 f3 f4 f5
  have H' := Aside0.mk (CompAt.bal (b' := b2) H.out)
  have BY' := Aside0.mk (blk_set_ne' BY.out (by omega : P ≠ W.heap.size) 6 (.int .i64 b2))
  have BQ' := Aside0.mk (blk_set_ne' BQ.out hne1 6 (.int .i64 b2))
  have G' := Aside0.mk (wrote_trans G.out (wrote_set (j := 6) (.int .i64 b2)))
  have H'' := Aside0.mk H'.out.drew
  have BY'' := Aside0.mk (blk_drew BY'.out)
  have BQ'' := Aside0.mk (blk_drew BQ'.out)
  have G'' := Aside0.mk (wrote_trans G'.out (wrote_below (below_drew1 (Below.refl _ _))))
  clear H' BY' BQ' G'
  have H' := H''
  have BY' := BY''
  have BQ' := BQ''
  have G' := G''
  clear H'' BY'' BQ'' G''
  clear H BY BQ G
  generalize ((V3.setCell ⟨P, 6, none⟩ (.int .i64 b2))).drew = V4 at H' BY' BQ' G' ⊢
  have H := H'
  have BY := BY'
  have BQ := BQ'
  have G := G'
  clear H' BY' BQ' G'
  obtain ⟨c0, c1, c2, c3, c4, c5, c6, c7⟩ := comp_cells H.out
  have cf6 := blk_frozen H.out.blk 6
  have s0 : V4.cell? ⟨W.heap.size, 0, none⟩ = some (.int .i64 y.f0) := cell_two BY.out 0 rfl
  have s1 : V4.cell? ⟨W.heap.size, 1, none⟩ = some (.int .i64 y.f1) := cell_two BY.out 1 rfl
  have s2 : V4.cell? ⟨W.heap.size, 2, none⟩ = some (.int .i64 y.f2) := cell_two BY.out 2 rfl
  have q0 : V4.cell? ⟨W.heap.size + 1, 0, none⟩ = some (.int .i64 (rateP a y.f0)) := cell_two BQ.out 0 rfl
  have q1 : V4.cell? ⟨W.heap.size + 1, 1, none⟩ = some (.int .i64 due) := cell_two BQ.out 1 rfl
  have q2 : V4.cell? ⟨W.heap.size + 1, 2, none⟩ = some (.int .i64 paid) := cell_two BQ.out 2 rfl
  have q3 : V4.cell? ⟨W.heap.size + 1, 3, none⟩ = some (.int .i64 0) := cell_two BQ.out 3 rfl
  have q4 : V4.cell? ⟨W.heap.size + 1, 4, none⟩ = some (.int .i64 0) := cell_two BQ.out 4 rfl
  have q5 : V4.cell? ⟨W.heap.size + 1, 5, none⟩ = some (.int .i64 0) := cell_two BQ.out 5 rfl
  have f0 := blk_frozen BQ.out 0
  have f1 := blk_frozen BQ.out 1
  have f2 := blk_frozen BQ.out 2
  have f3 := blk_frozen BQ.out 3
  have f4 := blk_frozen BQ.out 4
  have f5 := blk_frozen BQ.out 5
  go_wp2_with (first | (go_at_call 47; refine (HSET.out _ _ H.out).mono ?_; rintro e W5 ⟨rfl, hg, A5, n5, k5, hcomp⟩; have H5 := Aside0.mk hcomp; have BY5 := Aside0.mk (blk_grown BY.out hg (fun e => by injection e with e; omega)); have BQ5 := Aside0.mk (blk_grown BQ.out hg (fun e => by injection e with e; omega)); have G5 := Aside0.mk (wrote_trans G.out hg); clear hg hcomp; clear c0 c1 c2 c3 c4 c5 c6 c7 cf6 s0 s1 s2 q0 q1 q2 q3 q4 q5 f0 f1 f2 f3 f4 f5; clear H BY BQ G; have H := H5; have BY := BY5; have BQ := BQ5; have G := G5; clear H5 BY5 BQ5 G5; obtain ⟨c0, c1, c2, c3, c4, c5, c6, c7⟩ := comp_cells H.out; have cf6 := blk_frozen H.out.blk 6; have s0 : W5.cell? ⟨W.heap.size, 0, none⟩ = some (.int .i64 y.f0) := cell_two BY.out 0 rfl; have s1 : W5.cell? ⟨W.heap.size, 1, none⟩ = some (.int .i64 y.f1) := cell_two BY.out 1 rfl; have s2 : W5.cell? ⟨W.heap.size, 2, none⟩ = some (.int .i64 y.f2) := cell_two BY.out 2 rfl; have q0 : W5.cell? ⟨W.heap.size + 1, 0, none⟩ = some (.int .i64 (rateP a y.f0)) := cell_two BQ.out 0 rfl; have q1 : W5.cell? ⟨W.heap.size + 1, 1, none⟩ = some (.int .i64 due) := cell_two BQ.out 1 rfl; have q2 : W5.cell? ⟨W.heap.size + 1, 2, none⟩ = some (.int .i64 paid) := cell_two BQ.out 2 rfl; have q3 : W5.cell? ⟨W.heap.size + 1, 3, none⟩ = some (.int .i64 0) := cell_two BQ.out 3 rfl; have q4 : W5.cell? ⟨W.heap.size + 1, 4, none⟩ = some (.int .i64 0) := cell_two BQ.out 4 rfl; have q5 : W5.cell? ⟨W.heap.size + 1, 5, none⟩ = some (.int .i64 0) := cell_two BQ.out 5 rfl; have f0 := blk_frozen BQ.out 0; have f1 := blk_frozen BQ.out 1; have f2 := blk_frozen BQ.out 2; have f3 := blk_frozen BQ.out 3; have f4 := blk_frozen BQ.out 4; have f5 := blk_frozen BQ.out 5) | (go_at_call 37; refine (HOW2.out _ _ _ _ _ H.out).mono ?_; rintro e w' ⟨rfl, rfl⟩))
  clear c0 c1 c2 c3 c4 c5 c6 c7 cf6 s0 s1 s2 q0 q1 q2 q3 q4 q5 f0 f1 f2 f3 f4 f5
  have H' := Aside0.mk (CompAt.far (j := 3) H.out BQ.out (by decide) (by decide) (.int .i64 sm2))
  have BY' := Aside0.mk (blk_set_ne' BY.out (by omega : W.heap.size + 1 ≠ W.heap.size) 3 (.int .i64 sm2))
  have BQ' : Aside0 ((W5.setCell ⟨W.heap.size + 1, 3, none⟩ (.int .i64 sm2)).heap[W.heap.size + 1]? = some (.cells #[.int .i64 (rateP a y.f0), .int .i64 due, .int .i64 paid, .int .i64 sm2, .int .i64 0, .int .i64 0] 45 (0, 0))) := ⟨blk_put BQ.out 3 _ rfl⟩
  have G' := Aside0.mk (wrote_new (P := P) (j := 3) G.out (by omega : W.heap.size ≤ W.heap.size + 1) (.int .i64 sm2))
  clear H BY BQ G
  generalize (W5.setCell ⟨W.heap.size + 1, 3, none⟩ (.int .i64 sm2)) = V6 at H' BY' BQ' G' ⊢
  have H := H'
  have BY := BY'
  have BQ := BQ'
  have G := G'
  clear H' BY' BQ' G'
  obtain ⟨c0, c1, c2, c3, c4, c5, c6, c7⟩ := comp_cells H.out
  have cf6 := blk_frozen H.out.blk 6
  have s0 : V6.cell? ⟨W.heap.size, 0, none⟩ = some (.int .i64 y.f0) := cell_two BY.out 0 rfl
  have s1 : V6.cell? ⟨W.heap.size, 1, none⟩ = some (.int .i64 y.f1) := cell_two BY.out 1 rfl
  have s2 : V6.cell? ⟨W.heap.size, 2, none⟩ = some (.int .i64 y.f2) := cell_two BY.out 2 rfl
  have q0 : V6.cell? ⟨W.heap.size + 1, 0, none⟩ = some (.int .i64 (rateP a y.f0)) := cell_two BQ.out 0 rfl
  have q1 : V6.cell? ⟨W.heap.size + 1, 1, none⟩ = some (.int .i64 due) := cell_two BQ.out 1 rfl
  have q2 : V6.cell? ⟨W.heap.size + 1, 2, none⟩ = some (.int .i64 paid) := cell_two BQ.out 2 rfl
  have q3 : V6.cell? ⟨W.heap.size + 1, 3, none⟩ = some (.int .i64 sm2) := cell_two BQ.out 3 rfl
  have q4 : V6.cell? ⟨W.heap.size + 1, 4, none⟩ = some (.int .i64 0) := cell_two BQ.out 4 rfl
  have q5 : V6.cell? ⟨W.heap.size + 1, 5, none⟩ = some (.int .i64 0) := cell_two BQ.out 5 rfl
  have f0 := blk_frozen BQ.out 0
  have f1 := blk_frozen BQ.out 1
  have f2 := blk_frozen BQ.out 2
  have f3 := blk_frozen BQ.out 3
  have f4 := blk_frozen BQ.out 4
  have f5 := blk_frozen BQ.out 5
  go_big_region
  clear c0 c1 c2 c3 c4 c5 c6 c7 cf6 s0 s1 s2 q0 q1 q2 q3 q4 q5 f0 f1 f2 f3 f4 f5
  have H' := Aside0.mk (CompAt.far (j := 5) H.out BQ.out (by decide) (by decide) (.int .i64 reb))
  have BY' := Aside0.mk (blk_set_ne' BY.out (by omega : W.heap.size + 1 ≠ W.heap.size) 5 (.int .i64 reb))
  have BQ' : Aside0 ((V6.setCell ⟨W.heap.size + 1, 5, none⟩ (.int .i64 reb)).heap[W.heap.size + 1]? = some (.cells #[.int .i64 (rateP a y.f0), .int .i64 due, .int .i64 paid, .int .i64 sm2, .int .i64 0, .int .i64 reb] 45 (0, 0))) := ⟨blk_put BQ.out 5 _ rfl⟩
  have G' := Aside0.mk (wrote_new (P := P) (j := 5) G.out (by omega : W.heap.size ≤ W.heap.size + 1) (.int .i64 reb))
  have H'' := Aside0.mk H'.out.drew
  have BY'' := Aside0.mk (blk_drew BY'.out)
  have BQ'' := Aside0.mk (blk_drew BQ'.out)
  have G'' := Aside0.mk (wrote_trans G'.out (wrote_below (below_drew1 (Below.refl _ _))))
  clear H' BY' BQ' G'
  have H' := H''
  have BY' := BY''
  have BQ' := BQ''
  have G' := G''
  clear H'' BY'' BQ'' G''
  clear H BY BQ G
  generalize ((V6.setCell ⟨W.heap.size + 1, 5, none⟩ (.int .i64 reb))).drew = V7 at H' BY' BQ' G' ⊢
  have H := H'
  have BY := BY'
  have BQ := BQ'
  have G := G'
  clear H' BY' BQ' G'
  obtain ⟨c0, c1, c2, c3, c4, c5, c6, c7⟩ := comp_cells H.out
  have cf6 := blk_frozen H.out.blk 6
  have s0 : V7.cell? ⟨W.heap.size, 0, none⟩ = some (.int .i64 y.f0) := cell_two BY.out 0 rfl
  have s1 : V7.cell? ⟨W.heap.size, 1, none⟩ = some (.int .i64 y.f1) := cell_two BY.out 1 rfl
  have s2 : V7.cell? ⟨W.heap.size, 2, none⟩ = some (.int .i64 y.f2) := cell_two BY.out 2 rfl
  have q0 : V7.cell? ⟨W.heap.size + 1, 0, none⟩ = some (.int .i64 (rateP a y.f0)) := cell_two BQ.out 0 rfl
  have q1 : V7.cell? ⟨W.heap.size + 1, 1, none⟩ = some (.int .i64 due) := cell_two BQ.out 1 rfl
  have q2 : V7.cell? ⟨W.heap.size + 1, 2, none⟩ = some (.int .i64 paid) := cell_two BQ.out 2 rfl
  have q3 : V7.cell? ⟨W.heap.size + 1, 3, none⟩ = some (.int .i64 sm2) := cell_two BQ.out 3 rfl
  have q4 : V7.cell? ⟨W.heap.size + 1, 4, none⟩ = some (.int .i64 0) := cell_two BQ.out 4 rfl
  have q5 : V7.cell? ⟨W.heap.size + 1, 5, none⟩ = some (.int .i64 reb) := cell_two BQ.out 5 rfl
  have f0 := blk_frozen BQ.out 0
  have f1 := blk_frozen BQ.out 1
  have f2 := blk_frozen BQ.out 2
  have f3 := blk_frozen BQ.out 3
  have f4 := blk_frozen BQ.out 4
  have f5 := blk_frozen BQ.out 5
  go_wp2_with (fail)
  go_big_region
  clear c0 c1 c2 c3 c4 c5 c6 c7 cf6 s0 s1 s2 q0 q1 q2 q3 q4 q5 f0 f1 f2 f3 f4 f5
  have H' := Aside0.mk (CompAt.bal (b' := (b2 - reb)) H.out)
  have BY' := Aside0.mk (blk_set_ne' BY.out (by omega : P ≠ W.heap.size) 6 (.int .i64 (b2 - reb)))
  have BQ' := Aside0.mk (blk_set_ne' BQ.out hne1 6 (.int .i64 (b2 - reb)))
  have G' := Aside0.mk (wrote_trans G.out (wrote_set (j := 6) (.int .i64 (b2 - reb))))
  have H'' := Aside0.mk H'.out.drew
  have BY'' := Aside0.mk (blk_drew BY'.out)
  have BQ'' := Aside0.mk (blk_drew BQ'.out)
  have G'' := Aside0.mk (wrote_trans G'.out (wrote_below (below_drew1 (Below.refl _ _))))
  clear H' BY' BQ' G'
  have H' := H''
  have BY' := BY''
  have BQ' := BQ''
  have G' := G''
  clear H'' BY'' BQ'' G''
  clear H BY BQ G
  generalize ((V7.setCell ⟨P, 6, none⟩ (.int .i64 (b2 - reb)))).drew = V8 at H' BY' BQ' G' ⊢
  have H := H'
  have BY := BY'
  have BQ := BQ'
  have G := G'
  clear H' BY' BQ' G'
  obtain ⟨c0, c1, c2, c3, c4, c5, c6, c7⟩ := comp_cells H.out
  have cf6 := blk_frozen H.out.blk 6
  have s0 : V8.cell? ⟨W.heap.size, 0, none⟩ = some (.int .i64 y.f0) := cell_two BY.out 0 rfl
  have s1 : V8.cell? ⟨W.heap.size, 1, none⟩ = some (.int .i64 y.f1) := cell_two BY.out 1 rfl
  have s2 : V8.cell? ⟨W.heap.size, 2, none⟩ = some (.int .i64 y.f2) := cell_two BY.out 2 rfl
  have q0 : V8.cell? ⟨W.heap.size + 1, 0, none⟩ = some (.int .i64 (rateP a y.f0)) := cell_two BQ.out 0 rfl
  have q1 : V8.cell? ⟨W.heap.size + 1, 1, none⟩ = some (.int .i64 due) := cell_two BQ.out 1 rfl
  have q2 : V8.cell? ⟨W.heap.size + 1, 2, none⟩ = some (.int .i64 paid) := cell_two BQ.out 2 rfl
  have q3 : V8.cell? ⟨W.heap.size + 1, 3, none⟩ = some (.int .i64 sm2) := cell_two BQ.out 3 rfl
  have q4 : V8.cell? ⟨W.heap.size + 1, 4, none⟩ = some (.int .i64 0) := cell_two BQ.out 4 rfl
  have q5 : V8.cell? ⟨W.heap.size + 1, 5, none⟩ = some (.int .i64 reb) := cell_two BQ.out 5 rfl
  have f0 := blk_frozen BQ.out 0
  have f1 := blk_frozen BQ.out 1
  have f2 := blk_frozen BQ.out 2
  have f3 := blk_frozen BQ.out 3
  have f4 := blk_frozen BQ.out 4
  have f5 := blk_frozen BQ.out 5
  go_wp2_with (fail)
  clear c0 c1 c2 c3 c4 c5 c6 c7 cf6 s0 s1 s2 q0 q1 q2 q3 q4 q5 f0 f1 f2 f3 f4 f5
  have H' := Aside0.mk (CompAt.far (j := 4) H.out BQ.out (by decide) (by decide) (.int .i64 (b2 - reb)))
  have BY' := Aside0.mk (blk_set_ne' BY.out (by omega : W.heap.size + 1 ≠ W.heap.size) 4 (.int .i64 (b2 - reb)))
  have BQ' : Aside0 ((V8.setCell ⟨W.heap.size + 1, 4, none⟩ (.int .i64 (b2 - reb))).heap[W.heap.size + 1]? = some (.cells #[.int .i64 (rateP a y.f0), .int .i64 due, .int .i64 paid, .int .i64 sm2, .int .i64 (b2 - reb), .int .i64 reb] 45 (0, 0))) := ⟨blk_put BQ.out 4 _ rfl⟩
  have G' := Aside0.mk (wrote_new (P := P) (j := 4) G.out (by omega : W.heap.size ≤ W.heap.size + 1) (.int .i64 (b2 - reb)))
  clear H BY BQ G
  generalize (V8.setCell ⟨W.heap.size + 1, 4, none⟩ (.int .i64 (b2 - reb))) = V9 at H' BY' BQ' G' ⊢
  have H := H'
  have BY := BY'
  have BQ := BQ'
  have G := G'
  clear H' BY' BQ' G'
  have H' := Aside0.mk (CompAt.far (j := 0) H.out BQ.out (by decide) (by decide) (.int .i64 (rateP a y.f0)))
  have BY' := Aside0.mk (blk_set_ne' BY.out (by omega : W.heap.size + 1 ≠ W.heap.size) 0 (.int .i64 (rateP a y.f0)))
  have BQ' : Aside0 ((V9.setCell ⟨W.heap.size + 1, 0, none⟩ (.int .i64 (rateP a y.f0))).heap[W.heap.size + 1]? = some (.cells #[.int .i64 (rateP a y.f0), .int .i64 due, .int .i64 paid, .int .i64 sm2, .int .i64 (b2 - reb), .int .i64 reb] 45 (0, 0))) := ⟨blk_put BQ.out 0 _ rfl⟩
  have G' := Aside0.mk (wrote_new (P := P) (j := 0) G.out (by omega : W.heap.size ≤ W.heap.size + 1) (.int .i64 (rateP a y.f0)))
  clear H BY BQ G
  generalize (V9.setCell ⟨W.heap.size + 1, 0, none⟩ (.int .i64 (rateP a y.f0))) = V10 at H' BY' BQ' G' ⊢
  have H := H'
  have BY := BY'
  have BQ := BQ'
  have G := G'
  clear H' BY' BQ' G'
  have H' := Aside0.mk (CompAt.far (j := 1) H.out BQ.out (by decide) (by decide) (.int .i64 due))
  have BY' := Aside0.mk (blk_set_ne' BY.out (by omega : W.heap.size + 1 ≠ W.heap.size) 1 (.int .i64 due))
  have BQ' : Aside0 ((V10.setCell ⟨W.heap.size + 1, 1, none⟩ (.int .i64 due)).heap[W.heap.size + 1]? = some (.cells #[.int .i64 (rateP a y.f0), .int .i64 due, .int .i64 paid, .int .i64 sm2, .int .i64 (b2 - reb), .int .i64 reb] 45 (0, 0))) := ⟨blk_put BQ.out 1 _ rfl⟩
  have G' := Aside0.mk (wrote_new (P := P) (j := 1) G.out (by omega : W.heap.size ≤ W.heap.size + 1) (.int .i64 due))
  clear H BY BQ G
  generalize (V10.setCell ⟨W.heap.size + 1, 1, none⟩ (.int .i64 due)) = V11 at H' BY' BQ' G' ⊢
  have H := H'
  have BY := BY'
  have BQ := BQ'
  have G := G'
  clear H' BY' BQ' G'
  have H' := Aside0.mk (CompAt.far (j := 2) H.out BQ.out (by decide) (by decide) (.int .i64 paid))
  have BY' := Aside0.mk (blk_set_ne' BY.out (by omega : W.heap.size + 1 ≠ W.heap.size) 2 (.int .i64 paid))
  have BQ' : Aside0 ((V11.setCell ⟨W.heap.size + 1, 2, none⟩ (.int .i64 paid)).heap[W.heap.size + 1]? = some (.cells #[.int .i64 (rateP a y.f0), .int .i64 due, .int .i64 paid, .int .i64 sm2, .int .i64 (b2 - reb), .int .i64 reb] 45 (0, 0))) := ⟨blk_put BQ.out 2 _ rfl⟩
  have G' := Aside0.mk (wrote_new (P := P) (j := 2) G.out (by omega : W.heap.size ≤ W.heap.size + 1) (.int .i64 paid))
  clear H BY BQ G
  generalize (V11.setCell ⟨W.heap.size + 1, 2, none⟩ (.int .i64 paid)) = V12 at H' BY' BQ' G' ⊢
  have H := H'
  have BY := BY'
  have BQ := BQ'
  have G := G'
  clear H' BY' BQ' G'
  have H' := Aside0.mk (CompAt.far (j := 3) H.out BQ.out (by decide) (by decide) (.int .i64 sm2))
  have BY' := Aside0.mk (blk_set_ne' BY.out (by omega : W.heap.size + 1 ≠ W.heap.size) 3 (.int .i64 sm2))
  have BQ' : Aside0 ((V12.setCell ⟨W.heap.size + 1, 3, none⟩ (.int .i64 sm2)).heap[W.heap.size + 1]? = some (.cells #[.int .i64 (rateP a y.f0), .int .i64 due, .int .i64 paid, .int .i64 sm2, .int .i64 (b2 - reb), .int .i64 reb] 45 (0, 0))) := ⟨blk_put BQ.out 3 _ rfl⟩
  have G' := Aside0.mk (wrote_new (P := P) (j := 3) G.out (by omega : W.heap.size ≤ W.heap.size + 1) (.int .i64 sm2))
  clear H BY BQ G
  generalize (V12.setCell ⟨W.heap.size + 1, 3, none⟩ (.int .i64 sm2)) = V13 at H' BY' BQ' G' ⊢
  have H := H'
  have BY := BY'
  have BQ := BQ'
  have G := G'
  clear H' BY' BQ' G'
  have H' := Aside0.mk (CompAt.far (j := 4) H.out BQ.out (by decide) (by decide) (.int .i64 (b2 - reb)))
  have BY' := Aside0.mk (blk_set_ne' BY.out (by omega : W.heap.size + 1 ≠ W.heap.size) 4 (.int .i64 (b2 - reb)))
  have BQ' : Aside0 ((V13.setCell ⟨W.heap.size + 1, 4, none⟩ (.int .i64 (b2 - reb))).heap[W.heap.size + 1]? = some (.cells #[.int .i64 (rateP a y.f0), .int .i64 due, .int .i64 paid, .int .i64 sm2, .int .i64 (b2 - reb), .int .i64 reb] 45 (0, 0))) := ⟨blk_put BQ.out 4 _ rfl⟩
  have G' := Aside0.mk (wrote_new (P := P) (j := 4) G.out (by omega : W.heap.size ≤ W.heap.size + 1) (.int .i64 (b2 - reb)))
  clear H BY BQ G
  generalize (V13.setCell ⟨W.heap.size + 1, 4, none⟩ (.int .i64 (b2 - reb))) = V14 at H' BY' BQ' G' ⊢
  have H := H'
  have BY := BY'
  have BQ := BQ'
  have G := G'
  clear H' BY' BQ' G'
  have H' := Aside0.mk (CompAt.far (j := 5) H.out BQ.out (by decide) (by decide) (.int .i64 reb))
  have BY' := Aside0.mk (blk_set_ne' BY.out (by omega : W.heap.size + 1 ≠ W.heap.size) 5 (.int .i64 reb))
  have BQ' : Aside0 ((V14.setCell ⟨W.heap.size + 1, 5, none⟩ (.int .i64 reb)).heap[W.heap.size + 1]? = some (.cells #[.int .i64 (rateP a y.f0), .int .i64 due, .int .i64 paid, .int .i64 sm2, .int .i64 (b2 - reb), .int .i64 reb] 45 (0, 0))) := ⟨blk_put BQ.out 5 _ rfl⟩
  have G' := Aside0.mk (wrote_new (P := P) (j := 5) G.out (by omega : W.heap.size ≤ W.heap.size + 1) (.int .i64 reb))
  clear H BY BQ G
  generalize (V14.setCell ⟨W.heap.size + 1, 5, none⟩ (.int .i64 reb)) = V15 at H' BY' BQ' G' ⊢
  have H := H'
  have BY := BY'
  have BQ := BQ'
  have G := G'
  clear H' BY' BQ' G'
  obtain ⟨c0, c1, c2, c3, c4, c5, c6, c7⟩ := comp_cells H.out
  have cf6 := blk_frozen H.out.blk 6
  have s0 : V15.cell? ⟨W.heap.size, 0, none⟩ = some (.int .i64 y.f0) := cell_two BY.out 0 rfl
  have s1 : V15.cell? ⟨W.heap.size, 1, none⟩ = some (.int .i64 y.f1) := cell_two BY.out 1 rfl
  have s2 : V15.cell? ⟨W.heap.size, 2, none⟩ = some (.int .i64 y.f2) := cell_two BY.out 2 rfl
  have q0 : V15.cell? ⟨W.heap.size + 1, 0, none⟩ = some (.int .i64 (rateP a y.f0)) := cell_two BQ.out 0 rfl
  have q1 : V15.cell? ⟨W.heap.size + 1, 1, none⟩ = some (.int .i64 due) := cell_two BQ.out 1 rfl
  have q2 : V15.cell? ⟨W.heap.size + 1, 2, none⟩ = some (.int .i64 paid) := cell_two BQ.out 2 rfl
  have q3 : V15.cell? ⟨W.heap.size + 1, 3, none⟩ = some (.int .i64 sm2) := cell_two BQ.out 3 rfl
  have q4 : V15.cell? ⟨W.heap.size + 1, 4, none⟩ = some (.int .i64 (b2 - reb)) := cell_two BQ.out 4 rfl
  have q5 : V15.cell? ⟨W.heap.size + 1, 5, none⟩ = some (.int .i64 reb) := cell_two BQ.out 5 rfl
  have f0 := blk_frozen BQ.out 0
  have f1 := blk_frozen BQ.out 1
  have f2 := blk_frozen BQ.out 2
  have f3 := blk_frozen BQ.out 3
  have f4 := blk_frozen BQ.out 4
  have f5 := blk_frozen BQ.out 5
  rw [HY.out]
  refine bodyPost_ret (v := .agg #[.int .i64 (rateP a y.f0), .int .i64 due, .int .i64 paid, .int .i64 sm2, .int .i64 (b2 - reb), .int .i64 reb]) (by simp [results, Try.results44, go_sem, q0, q1, q2, q3, q4, q5]) rfl ⟨rfl, G.out, _, _, _, H.out⟩
end Go.Proofs.Ytnammdkpejocmaa.Print
