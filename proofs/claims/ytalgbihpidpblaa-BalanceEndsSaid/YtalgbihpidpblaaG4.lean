/- The plant with one flow fixed, and its first truth (BalanceEnds$1). -/
import Derived.Test.YtalgbihpidpblaaM6
namespace Go.Proofs.Ytalgbihpidpblaa.Print
open Go.RowKit Go.Shelf Go.Proofs.YtalgbihpidpblaaW.PrintWords Go.Proofs.YtalgbihpidpblaaW.PrintLast Go.Proofs.YtalgbihpidpblaaW.PrintMore
set_option linter.unusedVariables false
set_option linter.unusedSimpArgs false

theorem is_callc {pl : Int} {A B : Option Addr} {c d : Nat} {l : List S47} {b : List Int} {r : Bool} {w : World} (h : isB l b = r) (hp : isPlantB pl l = true) (hr : Kd.C k47 w A l.length l) (hc : l.length ≤ c) (hs : Kd.C (Kd.int .i64) w B b.length b) (hd : b.length ≤ d) :
    Calls Try.prog 22 #[.agg #[.int .i64 pl, .slice A l.length c], .slice B b.length d] w fun e w' => e = .returned (.bool r) ∧ Below w.heap.size w w' := by
  subst h
  exact gasworksref04_Is.calls _ pl A c l B d b _ w hr hc hs hd (is_eq pl l b hp)
theorem M_of_K {w W : World} {ok : Nat → Prop} {base : Nat} (x : S47) (cs : List Value) (h : k47.K w x cs) : k47.M W base ok x cs := by
  obtain rfl := k47_open h
  exact k47_mkM _ _ _ x

set_option maxHeartbeats 4000000 in
set_option maxRecDepth 100000 in
theorem with_any (pl : Int) (A : Option Addr) (c : Nat) (l : List S47) (i : Nat) (n : Int) (w : World) (P I : Nat) (hP : w.heap[P]? = some (.cells #[.int .i64 pl, .slice A l.length c] 24 (0, 0))) (hI : w.heap[I]? = some (.cells #[.int .i64 (i : Int)] 3 (0, 0)))
    (hC : Kd.C k47 w A l.length l) (hc : l.length ≤ c) (hi : i < l.length) (hl : l.length ≤ 16) (hp : isPlantB pl l = true) (r : List Int)
    (hT : balance_Truth.f pl (fixL l i n) = some (r, 0)) (hq : isPlantB pl (fixL l i n) = true) (i1 : isB (fixL l i n) r = true) (i2 : isB l r = true) :
    Calls Try.prog 24 #[.int .i64 n, .pointer (some ⟨P, 0, none⟩), .pointer (some ⟨I, 0, none⟩)] w fun e w' => e = .returned (.tuple #[.int .i64 0, .bool true]) ∧ Below w.heap.size w w' := by
  have HP := Aside0.mk hP
  have HI := Aside0.mk hI
  have HC := Aside0.mk hC
  have HPl := Aside0.mk hp
  have HT := Aside0.mk hT
  have HQ := Aside0.mk hq
  have J1 := Aside0.mk i1
  have J2 := Aside0.mk i2
  have a0 : w.cell? ⟨P, 0, none⟩ = some (.int .i64 pl) := cell_two hP 0 rfl
  have a1 : w.cell? ⟨P, 1, none⟩ = some (.slice A l.length c) := cell_two hP 1 rfl
  have hPlt := blk_lt hP
  have hln : (0 + l.length) * 32 ≤ 140737488355328 := by omega
  have hfl := fixL_length l i n
  have HTC : Aside0 (∀ (W : World) (A : Option Addr) (c : Nat), Kd.C k47 W A l.length (fixL l i n) → l.length ≤ c → Calls Try.prog 11 #[.agg #[.int .i64 pl, .slice A l.length c]] W (fun e w' => ∃ v0_ : Value, e = .returned (.tuple #[v0_, .int .i64 0]) ∧ Kd.R (Kd.int .i64) 3 w' W.heap.size (fun _ => True) v0_ r ∧ Below W.heap.size W w')) := ⟨fun W A c h1 h2 => by
    have := truth_call (A := A) (c := c) hT (by rw [hfl]; exact h1) (by rw [hfl]; exact h2)
    rw [hfl] at this
    exact this⟩
  have HIC : Aside0 (∀ (W : World) (A : Option Addr) (c : Nat) (B : Option Addr) (d : Nat), Kd.C k47 W A l.length (fixL l i n) → l.length ≤ c → Kd.C (Kd.int .i64) W B r.length r → r.length ≤ d → Calls Try.prog 22 #[.agg #[.int .i64 pl, .slice A l.length c], .slice B r.length d] W (fun e w' => e = .returned (.bool true) ∧ Below W.heap.size W w')) := ⟨fun W A c B d h1 h2 h3 h4 => by
    have := is_callc (A := A) (c := c) i1 hq (by rw [hfl]; exact h1) (by rw [hfl]; exact h2) h3 h4
    rw [hfl] at this
    exact this⟩
  have HB0 := Aside0.mk (below_alloc (Below.refl w.heap.size w) (.cells #[.int .i64 pl, .slice A l.length c] 24))
  clear hP hI hC hp hT hq i1 i2 hfl
  go_enter Try.func24, Try.ntmps24
  go_wp2_with (first
    | ((with_reducible refine gate_dst (N := 10) rfl ?_); refine Kd.R_lit k47 (w0 := w) w.heap.size 47 ?hg (N := 10) ?hd (xs := ([] : List S47)) (inner := []) (ok := fun _ => True) (okp := fun _ => False) ?hr (Reps.none _ _) (fun _ hk => hk.elim) trivial HB0.out HB0.out.size (by simp) ?_; (case hd => rfl); (case hg => rfl); (case hr => first | (go_simp; done) | (go_simp; rfl)); intro v1 W2 ho hb hg hnew; have HE2 := Aside0.mk ho; have HB2 := Aside0.mk hb; have BQ2 := Aside0.mk (blk_grown (blk_new w (.cells #[.int .i64 pl, .slice A l.length c] 24)) hg (by simp)); have a2 : W2.cell? ⟨P, 1, none⟩ = some (.slice A l.length c) := (hb.cell (World.block_lt_of_cell? _ _ a1)).trans a1; clear ho hb hg hnew)
    | ((with_reducible refine gate_builtin (b := .append) (xs := #[.tmp 10, .tmp 12]) rfl ?_); at_builtin; refine Kd.R_append_rows k47 (w0 := w) w.heap.size rfl (.tmp 10) (.tmp 12) 22 47 (.agg #[(.int .i64 0), (.int .i64 0), (.int .i64 0), (.int .i64 0)]) 32 rfl Try.underlying22 info47 rfl (by decide) (by omega) v1 [] l A l.length c (fun _ => True) (fun _ => False) rfl rfl HE2.out (Kd.C_below HC.out HB2.out) (fun x cs hK => M_of_K x cs hK) (fun _ hk => hk.elim) (fun _ _ => trivial) HB2.out HB2.out.size hln ?_; intro v2 W3 ho hb hg hat; rw [List.nil_append] at ho; obtain ⟨go, co, rfl, gb0, gl0, gcs, gbk⟩ := Kd.R_form ho (by omega); have HF3 := Aside0.mk ho; have HB3 := Aside0.mk hb; have BQ3 := Aside0.mk (blk_grown BQ2.out hg (Kd.R_ne HE2.out BQ2.out (by decide))); have GL3 := Aside0.mk gl0; have GB3 := Aside0.mk gb0; have HCO := Aside0.mk (Kd.R_reads' ho).2.1; have GK3 := Aside0.mk gbk; have q0 := cell_two BQ3.out 0 rfl; have q1 := cell_two BQ3.out 1 rfl; have qf := blk_frozen BQ3.out 1; clear ho hb hg hat gb0 gl0 gbk a2 HE2 HB2 BQ2))
  have hne : go ≠ w.heap.size := fun e => blk_ne BQ3.out GK3.out (by decide) e.symm
  have BQ4 := Aside0.mk (blk_put BQ3.out 1 (.slice (some ⟨go, 0, none⟩) l.length co) rfl)
  have GK4 := Aside0.mk (blk_set_ne GK3.out hne.symm 1 (.slice (some ⟨go, 0, none⟩) l.length co))
  have HF4 := Aside0.mk (Kd.R_set HF3.out BQ3.out (by decide) 1 (.slice (some ⟨go, 0, none⟩) l.length co))
  have HB4 := Aside0.mk (below_set (g := w.heap.size) (j := 1) (v := .slice (some ⟨go, 0, none⟩) l.length co) HB3.out (Nat.le_refl _))
  clear q0 q1 qf BQ3 GK3 HF3 HB3 GL3 HB0
  generalize W3.setCell ⟨w.heap.size, 1, none⟩ (.slice (some ⟨go, 0, none⟩) l.length co) = W4 at BQ4 GK4 HF4 HB4 ⊢
  have hneI : go ≠ I := by
    have a := blk_lt HI.out
    have b := GB3.out
    omega
  have s1 : W4.cell? ⟨w.heap.size, 1, none⟩ = some (.slice (some ⟨go, 0, none⟩) l.length co) := cell_two BQ4.out 1 rfl
  have s2 : W4.cell? ⟨I, 0, none⟩ = some (.int .i64 (i : Int)) := cell_two (blk_below HI.out HB4.out) 0 rfl
  have i0 : (0 : Int) ≤ (i : Int) := Int.natCast_nonneg i
  have i1 : (i : Int) < (l.length : Int) := by omega
  obtain ⟨ad, e, _, _, c2, c3⟩ := at_T47 (Kd.R_reads' HF4.out).2.2 i i0 i1
  cases e
  have e0 : (⟨go, 0, none⟩ : Addr).add ((i : Int).toNat * 4) = ⟨go, i * 4, none⟩ := by
    have e1 : (i : Int).toNat = i := by omega
    rw [e1]
    unfold Addr.add
    split <;> simp_all
  rw [e0] at c2 c3
  have d2 : W4.cell? ⟨go, i * 4 + 2, none⟩ = some (.int .i64 (rd_T47 l i).f2.f0) := c2
  have d3 : W4.cell? ⟨go, i * 4 + 2 + 1, none⟩ = some (.int .i64 (rd_T47 l i).f2.f1) := c3
  obtain ⟨gcs', GK4'⟩ := (⟨_, GK4.out⟩ : ∃ cs, W4.heap[go]? = some (.cells cs 47 (0, 0)))
  have f2 := blk_frozen GK4' (i * 4 + 2)
  have f3 := blk_frozen GK4' (i * 4 + 2 + 1)
  clear c2 c3 e0 GK4
  have GK := Aside0.mk GK4'
  clear GK4'
  go_region_held3 (fun w' => w'.cell? ⟨w.heap.size, 1, none⟩ = some (.slice (some ⟨go, 0, none⟩) l.length co) ∧ w'.cell? ⟨I, 0, none⟩ = some (.int .i64 (i : Int))) (go_keep)
    ((go_at_call 25; refine (span_any _ _ _).mono ?_; rintro e W5 ⟨rfl, hb⟩; have t1 := (hb.cell (World.block_lt_of_cell? _ _ s1)).trans s1; have t2 := (hb.cell (World.block_lt_of_cell? _ _ s2)).trans s2; have d2' := (hb.cell (World.block_lt_of_cell? _ _ d2)).trans d2; have d3' := (hb.cell (World.block_lt_of_cell? _ _ d3)).trans d3; have f2' := (hb.frozen (World.block_lt_of_cell? _ _ d2)).trans f2; have f3' := (hb.frozen (World.block_lt_of_cell? _ _ d3)).trans f3; have HB5 := Aside0.mk hb; clear hb))
  have WX : Aside0 (Kd.C k47 ((W5.setCell ⟨go, i * 4 + 2, none⟩ (.int .i64 n)).setCell ⟨go, i * 4 + 2 + 1, none⟩ (.int .i64 n)) (some ⟨go, 0, none⟩) l.length (fixL l i n)) := ⟨by
    have := C_set47 (l := l) (c := 0) (n := l.length) rfl (Kd.R_reads' (Kd.R_below (Kd.R_drew HF4.out) HB5.out)).2.2 hi ⟨n, n⟩
    unfold fixL
    exact this⟩
  have BX : Aside0 (((W5.setCell ⟨go, i * 4 + 2, none⟩ (.int .i64 n)).setCell ⟨go, i * 4 + 2 + 1, none⟩ (.int .i64 n)).heap[w.heap.size]? = some (.cells #[.int .i64 pl, .slice (some ⟨go, 0, none⟩) l.length co] 24 (0, 0))) := ⟨blk_set_ne (blk_set_ne (blk_below (blk_drew BQ4.out) HB5.out) hne _ _) hne _ _⟩
  have VX := Aside0.mk (below_set (g := go) (j := i * 4 + 2 + 1) (v := .int .i64 n) (below_set (g := go) (j := i * 4 + 2) (v := .int .i64 n) (bl_next HB4.out.drew HB5.out) GB3.out) GB3.out)
  clear s1 s2 d2 d3 f2 f3 t1 t2 d2' d3' f2' f3' HF4 HB4 HB5 BQ4 GK
  generalize (W5.setCell ⟨go, i * 4 + 2, none⟩ (.int .i64 n)).setCell ⟨go, i * 4 + 2 + 1, none⟩ (.int .i64 n) = W6 at WX BX VX ⊢
  have s0 := cell_two BX.out 0 rfl
  have s1 := cell_two BX.out 1 rfl
  have hco := HCO.out
  go_wp2_with (first
    | (go_at_call 11; refine (HTC.out W6 (some ⟨go, 0, none⟩) co WX.out hco).mono ?_; rintro e W7 ⟨v, rfl, hR, hb⟩; obtain ⟨A7, c7, rfl⟩ := Kd.R_slice hR; have HR7 := Aside0.mk (Kd.R_lower hR VX.out.size); have WX7 := Aside0.mk (Kd.C_below WX.out hb); have BX7 := Aside0.mk (blk_below BX.out hb); have VX7 := Aside0.mk (bl_next VX.out hb); clear hR hb s0 s1; have s0 := cell_two BX7.out 0 rfl; have s1 := cell_two BX7.out 1 rfl; have a0' := cell_two (blk_below HP.out VX7.out) 0 rfl; have a1' := cell_two (blk_below HP.out VX7.out) 1 rfl)
    | (go_at_call 22; have hgu := VX8.out; clear hgu; refine (is_callc J2.out HPl.out (Kd.C_below HC.out VX8.out) hc (Kd.R_reads' HR8.out).2.2 (Kd.R_reads' HR8.out).2.1).mono ?_; rintro e W9 ⟨rfl, hb⟩; have VX9 := Aside0.mk (bl_next VX8.out hb); clear hb)
    | (go_at_call 22; refine (HIC.out W7 (some ⟨go, 0, none⟩) co A7 c7 WX7.out hco (Kd.R_reads' HR7.out).2.2 (Kd.R_reads' HR7.out).2.1).mono ?_; rintro e W8 ⟨rfl, hb⟩; have HR8 := Aside0.mk (Kd.R_below HR7.out hb); have VX8 := Aside0.mk (bl_next VX7.out hb); clear hb a0' a1'; have a0' := cell_two (blk_below HP.out VX8.out) 0 rfl; have a1' := cell_two (blk_below HP.out VX8.out) 1 rfl))
  go_ret2
  exact ⟨rfl, VX9.out⟩

set_option maxHeartbeats 4000000 in
set_option maxRecDepth 100000 in
theorem with_no (pl : Int) (A : Option Addr) (c : Nat) (l : List S47) (i : Nat) (n : Int) (w : World) (P I : Nat) (hP : w.heap[P]? = some (.cells #[.int .i64 pl, .slice A l.length c] 24 (0, 0))) (hI : w.heap[I]? = some (.cells #[.int .i64 (i : Int)] 3 (0, 0)))
    (hC : Kd.C k47 w A l.length l) (hc : l.length ≤ c) (hi : i < l.length) (hl : l.length ≤ 16)
    (hT : balance_Truth.f pl (fixL l i n) = some ([], 6)) :
    Calls Try.prog 24 #[.int .i64 n, .pointer (some ⟨P, 0, none⟩), .pointer (some ⟨I, 0, none⟩)] w fun e w' => e = .returned (.tuple #[.int .i64 6, .bool false]) ∧ Below w.heap.size w w' := by
  have HP := Aside0.mk hP
  have HI := Aside0.mk hI
  have HC := Aside0.mk hC
  have HT := Aside0.mk hT
  have a0 : w.cell? ⟨P, 0, none⟩ = some (.int .i64 pl) := cell_two hP 0 rfl
  have a1 : w.cell? ⟨P, 1, none⟩ = some (.slice A l.length c) := cell_two hP 1 rfl
  have hPlt := blk_lt hP
  have hln : (0 + l.length) * 32 ≤ 140737488355328 := by omega
  have hfl := fixL_length l i n
  have HTC : Aside0 (∀ (W : World) (A : Option Addr) (c : Nat), Kd.C k47 W A l.length (fixL l i n) → l.length ≤ c → Calls Try.prog 11 #[.agg #[.int .i64 pl, .slice A l.length c]] W (fun e w' => ∃ v0_ : Value, e = .returned (.tuple #[v0_, .int .i64 6]) ∧ Kd.R (Kd.int .i64) 3 w' W.heap.size (fun _ => True) v0_ [] ∧ Below W.heap.size W w')) := ⟨fun W A c h1 h2 => by
    have := truth_call (A := A) (c := c) hT (by rw [hfl]; exact h1) (by rw [hfl]; exact h2)
    rw [hfl] at this
    exact this⟩
  have HB0 := Aside0.mk (below_alloc (Below.refl w.heap.size w) (.cells #[.int .i64 pl, .slice A l.length c] 24))
  clear hP hI hC hT hfl
  go_enter Try.func24, Try.ntmps24
  go_wp2_with (first
    | ((with_reducible refine gate_dst (N := 10) rfl ?_); refine Kd.R_lit k47 (w0 := w) w.heap.size 47 ?hg (N := 10) ?hd (xs := ([] : List S47)) (inner := []) (ok := fun _ => True) (okp := fun _ => False) ?hr (Reps.none _ _) (fun _ hk => hk.elim) trivial HB0.out HB0.out.size (by simp) ?_; (case hd => rfl); (case hg => rfl); (case hr => first | (go_simp; done) | (go_simp; rfl)); intro v1 W2 ho hb hg hnew; have HE2 := Aside0.mk ho; have HB2 := Aside0.mk hb; have BQ2 := Aside0.mk (blk_grown (blk_new w (.cells #[.int .i64 pl, .slice A l.length c] 24)) hg (by simp)); have a2 : W2.cell? ⟨P, 1, none⟩ = some (.slice A l.length c) := (hb.cell (World.block_lt_of_cell? _ _ a1)).trans a1; clear ho hb hg hnew)
    | ((with_reducible refine gate_builtin (b := .append) (xs := #[.tmp 10, .tmp 12]) rfl ?_); at_builtin; refine Kd.R_append_rows k47 (w0 := w) w.heap.size rfl (.tmp 10) (.tmp 12) 22 47 (.agg #[(.int .i64 0), (.int .i64 0), (.int .i64 0), (.int .i64 0)]) 32 rfl Try.underlying22 info47 rfl (by decide) (by omega) v1 [] l A l.length c (fun _ => True) (fun _ => False) rfl rfl HE2.out (Kd.C_below HC.out HB2.out) (fun x cs hK => M_of_K x cs hK) (fun _ hk => hk.elim) (fun _ _ => trivial) HB2.out HB2.out.size hln ?_; intro v2 W3 ho hb hg hat; rw [List.nil_append] at ho; obtain ⟨go, co, rfl, gb0, gl0, gcs, gbk⟩ := Kd.R_form ho (by omega); have HF3 := Aside0.mk ho; have HB3 := Aside0.mk hb; have BQ3 := Aside0.mk (blk_grown BQ2.out hg (Kd.R_ne HE2.out BQ2.out (by decide))); have GL3 := Aside0.mk gl0; have GB3 := Aside0.mk gb0; have HCO := Aside0.mk (Kd.R_reads' ho).2.1; have GK3 := Aside0.mk gbk; have q0 := cell_two BQ3.out 0 rfl; have q1 := cell_two BQ3.out 1 rfl; have qf := blk_frozen BQ3.out 1; clear ho hb hg hat gb0 gl0 gbk a2 HE2 HB2 BQ2))
  have hne : go ≠ w.heap.size := fun e => blk_ne BQ3.out GK3.out (by decide) e.symm
  have BQ4 := Aside0.mk (blk_put BQ3.out 1 (.slice (some ⟨go, 0, none⟩) l.length co) rfl)
  have GK4 := Aside0.mk (blk_set_ne GK3.out hne.symm 1 (.slice (some ⟨go, 0, none⟩) l.length co))
  have HF4 := Aside0.mk (Kd.R_set HF3.out BQ3.out (by decide) 1 (.slice (some ⟨go, 0, none⟩) l.length co))
  have HB4 := Aside0.mk (below_set (g := w.heap.size) (j := 1) (v := .slice (some ⟨go, 0, none⟩) l.length co) HB3.out (Nat.le_refl _))
  clear q0 q1 qf BQ3 GK3 HF3 HB3 GL3 HB0
  generalize W3.setCell ⟨w.heap.size, 1, none⟩ (.slice (some ⟨go, 0, none⟩) l.length co) = W4 at BQ4 GK4 HF4 HB4 ⊢
  have hneI : go ≠ I := by
    have a := blk_lt HI.out
    have b := GB3.out
    omega
  have s1 : W4.cell? ⟨w.heap.size, 1, none⟩ = some (.slice (some ⟨go, 0, none⟩) l.length co) := cell_two BQ4.out 1 rfl
  have s2 : W4.cell? ⟨I, 0, none⟩ = some (.int .i64 (i : Int)) := cell_two (blk_below HI.out HB4.out) 0 rfl
  have i0 : (0 : Int) ≤ (i : Int) := Int.natCast_nonneg i
  have i1 : (i : Int) < (l.length : Int) := by omega
  obtain ⟨ad, e, _, _, c2, c3⟩ := at_T47 (Kd.R_reads' HF4.out).2.2 i i0 i1
  cases e
  have e0 : (⟨go, 0, none⟩ : Addr).add ((i : Int).toNat * 4) = ⟨go, i * 4, none⟩ := by
    have e1 : (i : Int).toNat = i := by omega
    rw [e1]
    unfold Addr.add
    split <;> simp_all
  rw [e0] at c2 c3
  have d2 : W4.cell? ⟨go, i * 4 + 2, none⟩ = some (.int .i64 (rd_T47 l i).f2.f0) := c2
  have d3 : W4.cell? ⟨go, i * 4 + 2 + 1, none⟩ = some (.int .i64 (rd_T47 l i).f2.f1) := c3
  obtain ⟨gcs', GK4'⟩ := (⟨_, GK4.out⟩ : ∃ cs, W4.heap[go]? = some (.cells cs 47 (0, 0)))
  have f2 := blk_frozen GK4' (i * 4 + 2)
  have f3 := blk_frozen GK4' (i * 4 + 2 + 1)
  clear c2 c3 e0 GK4
  have GK := Aside0.mk GK4'
  clear GK4'
  go_region_held3 (fun w' => w'.cell? ⟨w.heap.size, 1, none⟩ = some (.slice (some ⟨go, 0, none⟩) l.length co) ∧ w'.cell? ⟨I, 0, none⟩ = some (.int .i64 (i : Int))) (go_keep)
    ((go_at_call 25; refine (span_any _ _ _).mono ?_; rintro e W5 ⟨rfl, hb⟩; have t1 := (hb.cell (World.block_lt_of_cell? _ _ s1)).trans s1; have t2 := (hb.cell (World.block_lt_of_cell? _ _ s2)).trans s2; have d2' := (hb.cell (World.block_lt_of_cell? _ _ d2)).trans d2; have d3' := (hb.cell (World.block_lt_of_cell? _ _ d3)).trans d3; have f2' := (hb.frozen (World.block_lt_of_cell? _ _ d2)).trans f2; have f3' := (hb.frozen (World.block_lt_of_cell? _ _ d3)).trans f3; have HB5 := Aside0.mk hb; clear hb))
  have WX : Aside0 (Kd.C k47 ((W5.setCell ⟨go, i * 4 + 2, none⟩ (.int .i64 n)).setCell ⟨go, i * 4 + 2 + 1, none⟩ (.int .i64 n)) (some ⟨go, 0, none⟩) l.length (fixL l i n)) := ⟨by
    have := C_set47 (l := l) (c := 0) (n := l.length) rfl (Kd.R_reads' (Kd.R_below (Kd.R_drew HF4.out) HB5.out)).2.2 hi ⟨n, n⟩
    unfold fixL
    exact this⟩
  have BX : Aside0 (((W5.setCell ⟨go, i * 4 + 2, none⟩ (.int .i64 n)).setCell ⟨go, i * 4 + 2 + 1, none⟩ (.int .i64 n)).heap[w.heap.size]? = some (.cells #[.int .i64 pl, .slice (some ⟨go, 0, none⟩) l.length co] 24 (0, 0))) := ⟨blk_set_ne (blk_set_ne (blk_below (blk_drew BQ4.out) HB5.out) hne _ _) hne _ _⟩
  have VX := Aside0.mk (below_set (g := go) (j := i * 4 + 2 + 1) (v := .int .i64 n) (below_set (g := go) (j := i * 4 + 2) (v := .int .i64 n) (bl_next HB4.out.drew HB5.out) GB3.out) GB3.out)
  clear s1 s2 d2 d3 f2 f3 t1 t2 d2' d3' f2' f3' HF4 HB4 HB5 BQ4 GK
  generalize (W5.setCell ⟨go, i * 4 + 2, none⟩ (.int .i64 n)).setCell ⟨go, i * 4 + 2 + 1, none⟩ (.int .i64 n) = W6 at WX BX VX ⊢
  have s0 := cell_two BX.out 0 rfl
  have s1 := cell_two BX.out 1 rfl
  have hco := HCO.out
  go_wp2_with (first
    | (go_at_call 11; refine (HTC.out W6 (some ⟨go, 0, none⟩) co WX.out hco).mono ?_; rintro e W7 ⟨v, rfl, hR, hb⟩; obtain ⟨A7, c7, rfl⟩ := Kd.R_slice hR; have HR7 := Aside0.mk (Kd.R_lower hR VX.out.size); have WX7 := Aside0.mk (Kd.C_below WX.out hb); have BX7 := Aside0.mk (blk_below BX.out hb); have VX7 := Aside0.mk (bl_next VX.out hb); clear hR hb s0 s1; have s0 := cell_two BX7.out 0 rfl; have s1 := cell_two BX7.out 1 rfl; have a0' := cell_two (blk_below HP.out VX7.out) 0 rfl; have a1' := cell_two (blk_below HP.out VX7.out) 1 rfl))
  go_ret2
  exact ⟨rfl, VX7.out⟩
end Go.Proofs.Ytalgbihpidpblaa.Print
