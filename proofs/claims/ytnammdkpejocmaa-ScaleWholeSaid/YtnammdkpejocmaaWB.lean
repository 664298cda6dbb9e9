/- ScaleWhole: the walk. -/
import Derived.Test.YtnammdkpejocmaaWA
import Derived.Test.YtnammdkpejocmaaHZ
import Derived.Test.YtnammdkpejocmaaSM
namespace Go.Proofs.Ytnammdkpejocmaa.Print
open Go.RowKit Go.Proofs.YtnammdkpejocmaaW.PrintWords Go.Proofs.YtnammdkpejocmaaW.PrintLast Go.Proofs.YtnammdkpejocmaaW.PrintMore
set_option linter.unusedVariables false
set_option linter.unusedSimpArgs false
attribute [local go_sem] Oper.semAt_some
theorem M_of_K45 {w W : World} {base : Nat} {ok : Nat → Prop} (x : S45) (cs : List Value) (h : k45.K w x cs) : k45.M W base ok x cs := by rw [k45_open h]; exact k45_mkM _ _ _ _
attribute [local go_sem] max2_mx max_two
/-- A row of bits, as a number. -/
def bs_ (n m : Nat) : Array Bool := ((List.range n).map fun k => m.testBit k).toArray
theorem LM_ : (∀ (f : Operand → Value) (l : List Operand), l.toArray.map f = (l.map f).toArray) ∧ (∀ (f : Operand → Value) (x : Operand) (l : List Operand), (x :: l).map f = f x :: l.map f) ∧ (∀ f : Operand → Value, ([] : List Operand).map f = []) :=
  ⟨fun _ _ => List.map_toArray .., fun _ _ _ => List.map_cons .., fun _ => List.map_nil ..⟩
theorem N2_ : (∀ (xs : List Value) (i : Nat) (v : Value), xs.toArray.setIfInBounds i v = (xs.set i v).toArray) ∧ (∀ (x : Value) (xs : List Value) (v : Value), (x :: xs).set 0 v = v :: xs) ∧ (∀ (x : Value) (xs : List Value) (i : Nat) (v : Value), (x :: xs).set (i + 1) v = x :: xs.set i v) :=
  ⟨fun _ _ _ => List.setIfInBounds_toArray _ _ _, fun _ _ _ => List.set_cons_zero, fun _ _ _ _ => List.set_cons_succ⟩
theorem N1_ : ((∀ (xs : List Value) (i : Nat) (v : Value), xs.toArray.setIfInBounds i v = (xs.set i v).toArray) ∧ (∀ (x : Value) (xs : List Value) (v : Value), (x :: xs).set 0 v = v :: xs) ∧ (∀ (x : Value) (xs : List Value) (i : Nat) (v : Value), (x :: xs).set (i + 1) v = x :: xs.set i v)) ∧
    (∀ n : Int, IntKind.i64.wrap n = Go.RowKit.wrap64 n) ∧ (∀ n : Int, IntKind.i32.wrap n = Go.RowKit.wrap32 n) := ⟨N2_, i64_w, i32_w⟩
def fld45 (q : S45) (m : Nat) : Int := match m with | 0 => q.f0 | 1 => q.f1 | 2 => q.f2 | 3 => q.f3 | 4 => q.f4 | _ => q.f5
def put45 (q : S45) (m : Nat) (v : Int) : S45 := match m with | 0 => { q with f0 := v } | 1 => { q with f1 := v } | 2 => { q with f2 := v } | 3 => { q with f3 := v } | 4 => { q with f4 := v } | _ => { q with f5 := v }
/-- The k-th of the payments, one number of it put anew. -/
theorem wrong_cell {W : World} {b g cap n I M : Nat} {R : List S45} (h : Kd.R k45 45 W b (fun _ => True) (.slice (some ⟨g, 0, none⟩) n cap) R) (hI : I < n) (hM : M < 6) : W.cell? ⟨g, I * 6 + M, none⟩ = some (.int .i64 (fld45 (rd_T45 R I) M)) := by
  obtain ⟨hn, hc, hC⟩ := Kd.R_reads' h
  obtain ⟨ad, e, p0, p1, p2, p3, p4, p5⟩ := at_T45 hC I (by omega) (by omega)
  cases e
  have e0 : (⟨g, 0, none⟩ : Addr).add ((I : Int).toNat * 6) = ⟨g, I * 6, none⟩ := by
    have e1 : (I : Int).toNat = I := by omega
    rw [e1]
    unfold Addr.add
    split <;> simp_all
  rw [e0] at p0 p1 p2 p3 p4 p5
  match M, hM with
  | 0, _ => exact p0
  | 1, _ => exact p1
  | 2, _ => exact p2
  | 3, _ => exact p3
  | 4, _ => exact p4
  | 5, _ => exact p5
theorem wrong_set {W : World} {b g cap n I M : Nat} {R : List S45} (v : Int) (h : Kd.R k45 45 W b (fun _ => True) (.slice (some ⟨g, 0, none⟩) n cap) R) (hI : I < n) (hM : M < 6) :
    Kd.R k45 45 (W.setCell ⟨g, I * 6 + M, none⟩ (.int .i64 v)) b (fun _ => True) (.slice (some ⟨g, 0, none⟩) n cap) (R.set I (put45 (rd_T45 R I) M v)) := by
  have hc : ∀ j u, ([.int .i64 (rd_T45 R I).f0, .int .i64 (rd_T45 R I).f1, .int .i64 (rd_T45 R I).f2, .int .i64 (rd_T45 R I).f3, .int .i64 (rd_T45 R I).f4, .int .i64 (rd_T45 R I).f5] : List Value)[j]? = some u → W.cell? ⟨g, (I : Int).toNat * k45.sz + j, none⟩ = some u := by
    intro j u hj
    have hj6 : j < 6 := by
      have := (List.getElem?_eq_some_iff.1 hj).1
      simpa using this
    have h1 := wrong_cell h hI hj6
    have e1 : (I : Int).toNat = I := by omega
    rw [e1]
    refine h1.trans ?_
    match j, hj6, hj with
    | 0, _, hj => exact hj
    | 1, _, hj => exact hj
    | 2, _, hj => exact hj
    | 3, _, hj => exact hj
    | 4, _, hj => exact hj
    | 5, _, hj => exact hj
  have hs := Kd.R_seg h (I : Int) (by omega) (by omega) (c := [.int .i64 (rd_T45 R I).f0, .int .i64 (rd_T45 R I).f1, .int .i64 (rd_T45 R I).f2, .int .i64 (rd_T45 R I).f3, .int .i64 (rd_T45 R I).f4, .int .i64 (rd_T45 R I).f5]) (seg := [.int .i64 v]) (j := M) rfl hc (by show M + 1 ≤ 6; omega) (x' := put45 (rd_T45 R I) M v) (okp := fun _ => False)
    (by
      match M, hM with
      | 0, _ => exact k45_mkM _ _ _ _
      | 1, _ => exact k45_mkM _ _ _ _
      | 2, _ => exact k45_mkM _ _ _ _
      | 3, _ => exact k45_mkM _ _ _ _
      | 4, _ => exact k45_mkM _ _ _ _
      | 5, _ => exact k45_mkM _ _ _ _) (fun _ hk => hk.elim)
  have e1 : (I : Int).toNat = I := by omega
  rw [e1] at hs
  exact hs.1
theorem put45_ne (q : S45) (m : Nat) (v : Int) (hv : v ≠ fld45 q m) : put45 q m v ≠ q := by
  intro h
  have e : fld45 (put45 q m v) m = v := match m with
    | 0 => rfl
    | 1 => rfl
    | 2 => rfl
    | 3 => rfl
    | 4 => rfl
    | _ + 5 => rfl
  exact hv (by rw [← e, h])
theorem ix0 (p : Nat → Value) (W : World) : (Instr.index 50 (.agg #[p 0, p 1, p 2, p 3, p 4, p 5]) (.int .i64 0)).run Try.prog W = .ok (p 0) W := by kernel_rfl
theorem ix1 (p : Nat → Value) (W : World) : (Instr.index 50 (.agg #[p 0, p 1, p 2, p 3, p 4, p 5]) (.int .i64 1)).run Try.prog W = .ok (p 1) W := by kernel_rfl
theorem ix2 (p : Nat → Value) (W : World) : (Instr.index 50 (.agg #[p 0, p 1, p 2, p 3, p 4, p 5]) (.int .i64 2)).run Try.prog W = .ok (p 2) W := by kernel_rfl
theorem ix3 (p : Nat → Value) (W : World) : (Instr.index 50 (.agg #[p 0, p 1, p 2, p 3, p 4, p 5]) (.int .i64 3)).run Try.prog W = .ok (p 3) W := by kernel_rfl
theorem ix4 (p : Nat → Value) (W : World) : (Instr.index 50 (.agg #[p 0, p 1, p 2, p 3, p 4, p 5]) (.int .i64 4)).run Try.prog W = .ok (p 4) W := by kernel_rfl
theorem ix5 (p : Nat → Value) (W : World) : (Instr.index 50 (.agg #[p 0, p 1, p 2, p 3, p 4, p 5]) (.int .i64 5)).run Try.prog W = .ok (p 5) W := by kernel_rfl
theorem index_six (p : Nat → Value) (M : Nat) (hM : M < 6) (W : World) : (Instr.index 50 (.agg #[p 0, p 1, p 2, p 3, p 4, p 5]) (.int .i64 (M : Int))).run Try.prog W = .ok (p M) W :=
  match M, hM with
  | 0, _ => ix0 p W
  | 1, _ => ix1 p W
  | 2, _ => ix2 p W
  | 3, _ => ix3 p W
  | 4, _ => ix4 p W
  | 5, _ => ix5 p W
theorem fld_bounds (q : S45) (M : Nat) (h0 : -1000000000000000 ≤ q.f0 ∧ q.f0 ≤ 1000000000000000) (h1 : -1000000000000000 ≤ q.f1 ∧ q.f1 ≤ 1000000000000000) (h2 : -1000000000000000 ≤ q.f2 ∧ q.f2 ≤ 1000000000000000) (h3 : -1000000000000000 ≤ q.f3 ∧ q.f3 ≤ 1000000000000000) (h4 : -1000000000000000 ≤ q.f4 ∧ q.f4 ≤ 1000000000000000) (h5 : -1000000000000000 ≤ q.f5 ∧ q.f5 ≤ 1000000000000000) : -1000000000000000 ≤ fld45 q M ∧ fld45 q M ≤ 1000000000000000 := by
  unfold fld45
  split <;> assumption
theorem reps45_one (w : World) (base : Nat) (ok : Nat → Prop) (x : S45) : Reps (k45.M w base ok) k45.sz [x] [.int .i64 x.f0, .int .i64 x.f1, .int .i64 x.f2, .int .i64 x.f3, .int .i64 x.f4, .int .i64 x.f5] := by
  refine ⟨rfl, fun j p h => ?_⟩
  match j, h with
  | 0, h =>
    obtain rfl : x = p := by simpa using h
    exact k45_mkM w base ok x
  | j + 1, h => simp at h
theorem new_lt {W0 W1 : World} {v : Value} {xs : List S45} {ok : Nat → Prop} (h : Kd.R k45 45 W1 W0.heap.size ok v xs) (hat : ∃ b, v.ownBlock = some b ∧ W0.heap.size ≤ b) : W1.heap.size ≠ W0.heap.size := by
  obtain ⟨b, hb, hl⟩ := hat
  have := Kd.R_lt h b hb
  omega
structure RoundP (a : S23) (y : S47) (q : S45) (e p r : Int) : Prop where
  eq : e + y.f2 = (p + q.f2) + (r + q.f5) + q.f4
  most : q.f4 ≤ a.f4
  arr : 0 ≤ q.f3
  paid : 0 ≤ q.f2
  reb : 0 ≤ q.f5
  clean : 0 < q.f3 → q.f4 ≤ 0 ∧ q.f5 = 0
  full : 0 < q.f5 → q.f4 = a.f4
  rate : 0 ≤ q.f0 ∧ q.f0 ≤ 10000
  due : 0 ≤ q.f1 ∧ q.f1 ≤ 1099511627776
  low : q.f1 * 10000 ≤ y.f1 * q.f0
  high : y.f1 * q.f0 < (q.f1 + 1) * 10000
  cap : 0 ≤ y.f1 * q.f0 ∧ y.f1 * q.f0 ≤ 10995116277760000
  se : -109951162777600 ≤ e ∧ e ≤ 109951162777600
  sp : 0 ≤ p ∧ p ≤ 109951162777600
  sr : 0 ≤ r ∧ r ≤ 109951162777600
  y2 : -1099511627776 ≤ y.f2 ∧ y.f2 ≤ 1099511627776
  q4 : -109951162777600 ≤ q.f4
structure WholeAt (w W : World) (a : S23) (A1 A2 : Option Addr) (l : List S47) (R : List S45) : Prop where
  act : W.heap[w.heap.size]? = some (.cells #[.int .i64 a.f0, .int .i64 a.f1, .int .i64 a.f2, .int .i64 a.f3, .int .i64 a.f4, .int .i64 a.f5] 23 (0, 0))
  yrs : Kd.C k47 W A1 l.length l
  pay : Kd.C k45 W A2 R.length R
  bel : Below w.heap.size w W
theorem WholeAt.next {w W W' : World} {a : S23} {A1 A2 : Option Addr} {l : List S47} {R : List S45} (h : WholeAt w W a A1 A2 l R) (hb : Below W.heap.size W W') : WholeAt w W' a A1 A2 l R where
  act := blk_below h.act hb
  yrs := Kd.C_below h.yrs hb
  pay := Kd.C_below h.pay hb
  bel := bl_next' h.bel hb
theorem act_f4 {w W : World} {a : S23} {A1 A2 : Option Addr} {l : List S47} {R : List S45} (h : WholeAt w W a A1 A2 l R) : W.cell? ⟨w.heap.size, 4, none⟩ = some (.int .i64 a.f4) := cell_two h.act 4 rfl
set_option maxHeartbeats 60000000 in
set_option maxRecDepth 1000000 in
theorem whole_main (a : S23) (A1 : Option Addr) (c1 : Nat) (l : List S47) (R : List S45) (f t h : Int) (w : World) (hr : Kd.C k47 w A1 l.length l) (hc : l.length ≤ c1) (hR : runS a l = (R, 0)) (ha : actB a = true) (h16 : l.length ≤ 16) (hRl : R.length = l.length)
    (hc1b : ∀ j : Nat, j ≤ l.length → 0 ≤ colP (·.f1) R j ∧ colP (·.f1) R j ≤ 109951162777600) (hc1m : ∀ i j : Nat, i ≤ j → j ≤ l.length → colP (·.f1) R i ≤ colP (·.f1) R j)
    (hgd : ∀ i k : Nat, i ≤ k → k < l.length → colP (·.f2) R (k + 1) - colP (·.f2) R i ≤ colP (·.f1) R (k + 1) - colP (·.f1) R (i - a.f5.toNat))
    (harr : ∀ k : Nat, k < l.length → (rd_T45 R k).f3 ≤ 1000000000000000)
    (hset : ∀ (k : Nat) (q : S45), k < l.length → q ≠ rd_T45 R k → checkS a l (R.set k q) = ((k : Int), 11)) (htake : ∀ k : Nat, k < l.length → checkS a l (R.take k) = ((k : Int), 4)) (hmore : checkS a l (R ++ [⟨0, 0, 0, 0, 0, 0⟩]) = ((l.length : Int), 11))
    (hf : 0 ≤ f ∧ f ≤ 255) (ht : 0 ≤ t ∧ t ≤ 255) (hh : 0 ≤ h ∧ h ≤ 255)
    (hself : checkS a l R = ((R.length : Int), 0))
    (hF : ∀ k : Nat, k < l.length → RoundP a (rd_T47 l k) (rd_T45 R k) (colY (·.f2) l k) (colP (·.f2) R k) (colP (·.f5) R k)) :
    Calls Try.prog 6 #[actV a, .slice A1 l.length c1, .int .u8 f, .int .u8 t, .int .u8 h] w fun e w' => e = .returned (.bool true) ∧ Below w.heap.size w w' := by
  have HRun := Aside0.mk (fun (W : World) (h : Kd.C k47 W A1 l.length l) => by have := Run_any a A1 c1 l W h hc; rw [hR] at this; exact this)
  have HChk := Aside0.mk (fun (W : World) (p : List S45) (A2 : Option Addr) (c2 : Nat) (h : Kd.C k47 W A1 l.length l) (h2 : Kd.C k45 W A2 p.length p) (h3 : p.length ≤ c2) => Check_any a A1 A2 c1 c2 l p W h hc h2 h3)
  have HChkR : Aside0 (∀ (W : World) (A2 : Option Addr) (c2 : Nat) (h : Kd.C k47 W A1 l.length l) (h2 : Kd.C k45 W A2 R.length R) (h3 : R.length ≤ c2), Calls Try.prog 17 #[actV a, .slice A1 l.length c1, .slice A2 l.length c2] W (CheckPost ((l.length : Int), 0) W)) := ⟨fun W A2 c2 h h2 h3 => by have := HChk.out W R A2 c2 h h2 h3; rw [hself, hRl] at this; exact this⟩
  have HAct := Aside0.mk (fun (W : World) => gasworksref13_Act.calls a.f0 a.f1 a.f2 a.f3 a.f4 a.f5 true W (by rw [Act_f, ha]))
  have HC0 := Aside0.mk (Kd.C_alloc hr (actC a))
  have HB0 := Aside0.mk (below_alloc (Below.refl w.heap.size w) (actC a))
  have BP0 := Aside0.mk (blk_new w (actC a))
  have s0 := cell_two BP0.out 0 rfl
  have s1 := cell_two BP0.out 1 rfl
  have s2 := cell_two BP0.out 2 rfl
  have s3 := cell_two BP0.out 3 rfl
  have s4 := cell_two BP0.out 4 rfl
  have s5 := cell_two BP0.out 5 rfl
  have hlen : decide ((l.length : Int) > 24) = false := decide_eq_false (by omega)
  have HF := Aside0.mk hF
  have HC1B := Aside0.mk hc1b
  have HC1M := Aside0.mk hc1m
  have HGD := Aside0.mk hgd
  have HSET := Aside0.mk hset
  have HARR := Aside0.mk harr
  clear harr
  have HTAKE := Aside0.mk htake
  have HMORE := Aside0.mk hmore
  clear hset htake hmore
  clear hc1b hc1m hgd hF hr hR
  go_enter Try.func6, Try.ntmps6
  go_wp2_with (first
    | (go_at_call 15; refine (HRun.out _ HC0.out).mono ?_; rintro e W1 ⟨v0, rfl, hv, hb⟩; obtain ⟨A2, c2, rfl, hc2, hC2⟩ := Kd.R_reads hv; have H1 : Aside0 (WholeAt w W1 a A1 A2 l R) := ⟨⟨blk_below BP0.out hb, Kd.C_below HC0.out hb, hC2, bl_next' HB0.out hb⟩⟩; have Hc2 := Aside0.mk hc2; clear hv hb hC2 hc2; clear s0 s1 s2 s3 s4 s5; have s0 : W1.cell? ⟨w.heap.size, 0, none⟩ = some (.int .i64 a.f0) := cell_two H1.out.act 0 rfl; have s1 : W1.cell? ⟨w.heap.size, 1, none⟩ = some (.int .i64 a.f1) := cell_two H1.out.act 1 rfl; have s2 : W1.cell? ⟨w.heap.size, 2, none⟩ = some (.int .i64 a.f2) := cell_two H1.out.act 2 rfl; have s3 : W1.cell? ⟨w.heap.size, 3, none⟩ = some (.int .i64 a.f3) := cell_two H1.out.act 3 rfl; have s4 : W1.cell? ⟨w.heap.size, 4, none⟩ = some (.int .i64 a.f4) := cell_two H1.out.act 4 rfl; have s5 : W1.cell? ⟨w.heap.size, 5, none⟩ = some (.int .i64 a.f5) := cell_two H1.out.act 5 rfl)
    | (go_at_call 23; refine (HAct.out _).mono ?_; rintro e W2 ⟨rfl, hb⟩; have H2 := Aside0.mk (H1.out.next hb); clear hb))
  go_loopw [13, 14, 15, 72] (fun t13 t14 t15 i wr => ∃ k : Nat, i = .int .i64 (k : Int) ∧ k ≤ l.length ∧ t13 = .int .i64 (colY (·.f2) l k) ∧ t14 = .int .i64 (colP (·.f2) R k) ∧ t15 = .int .i64 (colP (·.f5) R k) ∧ Aside0 (WholeAt w wr a A1 A2 l R)) (fun _ _ _ i _ => l.length - (intOf i).toNat)
  case atStart => exact ⟨0, rfl, by omega, rfl, rfl, rfl, H2⟩
  case round =>
    obtain ⟨k, rfl, hk, rfl, rfl, rfl, HS⟩ := hrel
    by_cases hlt : k < l.length
    · have hlt' : decide ((k : Int) < (R.length : Int)) = true := decide_eq_true (by omega)
      obtain ⟨ad, e, g0, g1, g2⟩ := at_T47 HS.out.yrs k (by omega) (by omega)
      obtain ⟨ad2, e2, p0, p1, p2, p3, p4, p5⟩ := at_T45 HS.out.pay k (by omega) (by omega)
      cases e
      cases e2
      simp only [Int.toNat_natCast] at g0 g1 g2 p0 p1 p2 p3 p4 p5
      have hk1 : (k : Int) < (l.length : Int) := by omega
      have hk2 : (k : Int) < (R.length : Int) := by omega
      have F := Aside0.mk (HF.out k hlt)
      have CY := Aside0.mk (colY_succ (·.f2) l k hlt)
      have CP := Aside0.mk (colP_succ (·.f2) R k (by omega))
      have CR := Aside0.mk (colP_succ (·.f5) R k (by omega))
      generalize colY (·.f2) l k = E at F CY ⊢
      generalize colP (·.f2) R k = P at F CP ⊢
      generalize colP (·.f5) R k = RB at F CR ⊢
      obtain ⟨y, hyk⟩ : ∃ y, rd_T47 l k = y := ⟨_, rfl⟩
      rw [hyk] at g0 g1 g2 F CY
      have HYK := Aside0.mk hyk
      clear hyk
      generalize rd_T45 R k = q at p0 p1 p2 p3 p4 p5 F CP CR
      have HS2 := Aside0.mk (HS.out.next (below_alloc (Below.refl _ wr) (.cells #[.int .i64 q.f0, .int .i64 q.f1, .int .i64 q.f2, .int .i64 q.f3, .int .i64 q.f4, .int .i64 q.f5] 45)))
      have BX := Aside0.mk (blk_new wr (.cells #[.int .i64 q.f0, .int .i64 q.f1, .int .i64 q.f2, .int .i64 q.f3, .int .i64 q.f4, .int .i64 q.f5] 45))
      go_wp2_with (fail)
      generalize wr.alloc (.cells #[.int .i64 q.f0, .int .i64 q.f1, .int .i64 q.f2, .int .i64 q.f3, .int .i64 q.f4, .int .i64 q.f5] 45) = W2 at HS2 BX ⊢
      generalize wr.heap.size = g at BX ⊢
      clear g0 g1 g2 p0 p1 p2 p3 p4 p5
      obtain ⟨ad', e', g0, g1, g2⟩ := at_T47 HS2.out.yrs k (by omega) (by omega)
      cases e'
      rw [HYK.out] at g0 g1 g2
      simp only [Int.toNat_natCast] at g0 g1 g2
      have x0 : W2.cell? ⟨g, 0, none⟩ = some (.int .i64 q.f0) := cell_two BX.out 0 rfl
      have x1 : W2.cell? ⟨g, 1, none⟩ = some (.int .i64 q.f1) := cell_two BX.out 1 rfl
      have x2 : W2.cell? ⟨g, 2, none⟩ = some (.int .i64 q.f2) := cell_two BX.out 2 rfl
      have x3 : W2.cell? ⟨g, 3, none⟩ = some (.int .i64 q.f3) := cell_two BX.out 3 rfl
      have x4 : W2.cell? ⟨g, 4, none⟩ = some (.int .i64 q.f4) := cell_two BX.out 4 rfl
      have x5 : W2.cell? ⟨g, 5, none⟩ = some (.int .i64 q.f5) := cell_two BX.out 5 rfl
      have s4 : W2.cell? ⟨w.heap.size, 4, none⟩ = some (.int .i64 a.f4) := act_f4 HS2.out
      obtain ⟨eE, most, arr, paid, reb, clean, full, rate, due, low, high, cap, se, sp, sr, y2, q4⟩ := F.out
      have v1 : wrap64 (E + y.f2) = E + y.f2 := by unfold wrap64; omega
      go_big_region
      clear g0 g1 g2 x0 x1 x2 x3 x4 x5 s4
      have HS3 := Aside0.mk (HS2.out.next (below_drew (Below.refl _ W2)))
      have BX3 := Aside0.mk (blk_drew BX.out)
      generalize W2.drew = W3 at HS3 BX3 ⊢
      have x0 : W3.cell? ⟨g, 0, none⟩ = some (.int .i64 q.f0) := cell_two BX3.out 0 rfl
      have x1 : W3.cell? ⟨g, 1, none⟩ = some (.int .i64 q.f1) := cell_two BX3.out 1 rfl
      have x2 : W3.cell? ⟨g, 2, none⟩ = some (.int .i64 q.f2) := cell_two BX3.out 2 rfl
      have x3 : W3.cell? ⟨g, 3, none⟩ = some (.int .i64 q.f3) := cell_two BX3.out 3 rfl
      have x4 : W3.cell? ⟨g, 4, none⟩ = some (.int .i64 q.f4) := cell_two BX3.out 4 rfl
      have x5 : W3.cell? ⟨g, 5, none⟩ = some (.int .i64 q.f5) := cell_two BX3.out 5 rfl
      have s4 : W3.cell? ⟨w.heap.size, 4, none⟩ = some (.int .i64 a.f4) := act_f4 HS3.out
      have d1 : decide (q.f4 > a.f4) = false := decide_eq_false (by omega)
      have d2 : decide (q.f3 < 0) = false := decide_eq_false (by omega)
      have d3 : decide (q.f2 < 0) = false := decide_eq_false (by omega)
      have d4 : decide (q.f5 < 0) = false := decide_eq_false (by omega)
      have d5 : decide (q.f0 < 0) = false := decide_eq_false (by omega)
      have d6 : decide (q.f0 > 10000) = false := decide_eq_false (by omega)
      have v2 : wrap64 (P + q.f2 + (RB + q.f5)) = P + q.f2 + (RB + q.f5) := by unfold wrap64; omega
      have v3 : wrap64 (P + q.f2 + (RB + q.f5) + q.f4) = P + q.f2 + (RB + q.f5) + q.f4 := by unfold wrap64; omega
      have HCL := Aside0.mk clean
      have HFU := Aside0.mk full
      clear clean full
      go_upto_region 13 with (fail)
      go_cut [158] (fun v158 wc => v158 = .bool false ∧ wc = W3)
      case first =>
        by_cases h3 : q.f3 > 0
        · have e4 : decide (q.f4 > 0) = false := decide_eq_false (by have := HCL.out h3; omega)
          have e5 : decide (q.f5 > 0) = false := decide_eq_false (by have := HCL.out h3; omega)
          have e3 : decide (q.f3 > 0) = true := decide_eq_true h3
          as_aux_lemma =>
            go_wp2_with (fail)
            all_goals
              go_meet
              case rel => exact ⟨rfl, rfl⟩
        · have e3 : decide (q.f3 > 0) = false := decide_eq_false h3
          by_cases h5 : q.f5 > 0
          · have e5 : decide (q.f5 > 0) = true := decide_eq_true h5
            have e6 : (q.f4 != a.f4) = false := by rw [HFU.out h5]; simp
            as_aux_lemma =>
              go_wp2_with (fail)
              all_goals
                go_meet
                case rel => exact ⟨rfl, rfl⟩
          · have e5 : decide (q.f5 > 0) = false := decide_eq_false h5
            as_aux_lemma =>
              go_wp2_with (fail)
              all_goals
                go_meet
                case rel => exact ⟨rfl, rfl⟩
      case rest =>
        as_aux_lemma =>
          obtain ⟨rfl, rfl⟩ := hcut
          clear d1 d2 d3 d4 d5 d6 v1 v2 v3
          have w1 : wrap64 (q.f1 * 10000) = q.f1 * 10000 := by unfold wrap64; omega
          have w2 : wrap64 (y.f1 * q.f0) = y.f1 * q.f0 := by generalize y.f1 * q.f0 = z at *; unfold wrap64; omega
          have w3 : wrap64 (q.f1 + 1) = q.f1 + 1 := by unfold wrap64; omega
          have w4 : wrap64 ((q.f1 + 1) * 10000) = (q.f1 + 1) * 10000 := by unfold wrap64; omega
          have d1 : decide (q.f1 * 10000 > y.f1 * q.f0) = false := decide_eq_false (by omega)
          have d2 : decide ((q.f1 + 1) * 10000 ≤ y.f1 * q.f0) = false := decide_eq_false (by omega)
          obtain ⟨ad', e', g0, g1, g2⟩ := at_T47 HS3.out.yrs k (by omega) (by omega)
          cases e'
          rw [HYK.out] at g0 g1 g2
          simp only [Int.toNat_natCast] at g0 g1 g2
          go_upto_region 15 with (fail)
          go_big_region
          have HS4 := Aside0.mk (HS3.out.next (below_drew (Below.refl _ wc)))
          generalize wc.drew = W4 at HS4 ⊢
          go_wp2_with (fail)
          go_roundw
          case rel => exact ⟨k + 1, by go_num, by omega, by rw [CY.out, F.out.eq], by rw [CP.out], by rw [CR.out], HS4⟩
          case measure => simp [intOf]; omega
    · have hlt' : decide ((k : Int) < (R.length : Int)) = false := decide_eq_false (by omega)
      have s0 : wr.cell? ⟨w.heap.size, 0, none⟩ = some (.int .i64 a.f0) := cell_two HS.out.act 0 rfl
      have s1 : wr.cell? ⟨w.heap.size, 1, none⟩ = some (.int .i64 a.f1) := cell_two HS.out.act 1 rfl
      have s2 : wr.cell? ⟨w.heap.size, 2, none⟩ = some (.int .i64 a.f2) := cell_two HS.out.act 2 rfl
      have s3 : wr.cell? ⟨w.heap.size, 3, none⟩ = some (.int .i64 a.f3) := cell_two HS.out.act 3 rfl
      have s4 : wr.cell? ⟨w.heap.size, 4, none⟩ = some (.int .i64 a.f4) := cell_two HS.out.act 4 rfl
      have s5 : wr.cell? ⟨w.heap.size, 5, none⟩ = some (.int .i64 a.f5) := cell_two HS.out.act 5 rfl
      by_cases h0 : l.length = 0
      · have z0 : (((l.length : Nat) : Int) == 0) = true := by rw [h0]; rfl
        clear h0
        go_wp2_with (first
          | (go_at_call 17; refine (HChkR.out _ A2 c2 HS.out.yrs HS.out.pay Hc2.out).mono ?_; rintro e W5 ⟨rfl, hb⟩; have HS5 := Aside0.mk (HS.out.next hb); clear hb)
          | (go_at_call 14; refine (alive_any _).mono ?_; rintro e W6 ⟨rfl, hb⟩; have HB6 := Aside0.mk (bl_next' HS5.out.bel hb); clear hb))
        go_ret
        exact ⟨rfl, HB6.out⟩
      · have z0 : (((l.length : Nat) : Int) == 0) = false := beq_eq_false_iff_ne.2 (by omega)
        obtain ⟨I, hI⟩ : ∃ I : Nat, f % (l.length : Int) = (I : Int) := ⟨(f % (l.length : Int)).toNat, (Int.toNat_of_nonneg (Int.emod_nonneg _ (by omega))).symm⟩
        have hIl : I < l.length := by have := Int.emod_lt_of_pos f (show (0:Int) < l.length by omega); omega
        obtain ⟨J, hJ⟩ : ∃ J : Nat, t % (l.length : Int) = (J : Int) := ⟨(t % (l.length : Int)).toNat, (Int.toNat_of_nonneg (Int.emod_nonneg _ (by omega))).symm⟩
        have hJl : J < l.length := by have := Int.emod_lt_of_pos t (show (0:Int) < l.length by omega); omega
        have nz : ¬ ((l.length : Int) = 0) := by omega
        clear h0
        go_wp2_with (first
          | (go_at_call 17; refine (HChkR.out _ A2 c2 HS.out.yrs HS.out.pay Hc2.out).mono ?_; rintro e W5 ⟨rfl, hb⟩; have HS5 := Aside0.mk (HS.out.next hb); clear hb))
        have HS6 := Aside0.mk (HS5.out.next (below_drew (Below.refl _ W5)))
        go_big_region
        go_wp2_with (fail)
        simp only [hI, hJ]
        have HIJ := Aside0.mk (And.intro hI hJ)
        generalize W5.drew = W6 at HS6 ⊢
        clear hI hJ nz
        go_loop [22, 24] (fun t22 t24 => ∃ j : Nat, t24 = .int .i64 (j : Int) ∧ I ≤ j ∧ (j = I ∨ j ≤ J + 1) ∧ t22 = .int .i64 (colP (·.f2) R j - colP (·.f2) R I)) (fun _ t24 => (J + 1) - (intOf t24).toNat)
        case atStart => exact ⟨I, rfl, by omega, .inl rfl, by simp⟩
        case round =>
          obtain ⟨j, rfl, hIj, hjJ, rfl⟩ := hrel
          by_cases hjl : j ≤ J
          · obtain ⟨ad2, e2, p0, p1, p2, p3, p4, p5⟩ := at_T45 HS6.out.pay j (by omega) (by omega)
            cases e2
            simp only [Int.toNat_natCast] at p0 p1 p2 p3 p4 p5
            have F := Aside0.mk (HF.out j (by omega))
            have CP := Aside0.mk (colP_succ (·.f2) R j (by omega))
            have j0 : (0 : Int) ≤ (j : Int) := Int.natCast_nonneg j
            have j1 : (j : Int) < (l.length : Int) := by omega
            obtain ⟨eE, most, arr, paid, reb, clean, full, rate, due, low, high, cap, se, sp, sr, y2, q4⟩ := F.out
            have sI := (HF.out I (by omega)).sp
            have hle : decide ((j : Int) ≤ (J : Int)) = true := decide_eq_true (by omega)
            have v1 : wrap64 (colP (·.f2) R j - colP (·.f2) R I + (rd_T45 R j).f2) = colP (·.f2) R j - colP (·.f2) R I + (rd_T45 R j).f2 := by unfold wrap64; omega
            clear F eE most arr paid reb clean full rate due low high cap se sp sr y2 q4 sI hjJ
            go_wp2_with (fail)
            go_round
            case rel => exact ⟨j + 1, by go_num, by omega, by omega, by rw [CP.out]; go_num⟩
            case measure => simp [intOf]; omega
          · have hle : decide ((j : Int) ≤ (J : Int)) = false := decide_eq_false (by omega)
            obtain ⟨D, hD⟩ : ∃ D : Nat, D = I - a.f5.toNat := ⟨_, rfl⟩
            have s5 : W6.cell? ⟨w.heap.size, 5, none⟩ = some (.int .i64 a.f5) := cell_two HS6.out.act 5 rfl
            obtain ⟨_, _, _, _, _, _, _, _, _, _, b0, b1⟩ := act_of ha
            have v1 : wrap64 ((I : Int) - a.f5) = (I : Int) - a.f5 := by unfold wrap64; omega
            have v2 : mx 0 ((I : Int) - a.f5) = (D : Int) := by unfold mx; split <;> omega
            have HD := Aside0.mk hD
            clear hD
            go_wp2_with (fail)
            clear v1 v2 hle b0 b1 s5
            go_loop [23, 25] (fun t23 t25 => ∃ m : Nat, t25 = .int .i64 (m : Int) ∧ D ≤ m ∧ (m = D ∨ m ≤ J + 1) ∧ t23 = .int .i64 (colP (·.f1) R m - colP (·.f1) R D)) (fun _ t25 => (J + 1) - (intOf t25).toNat)
            case atStart => exact ⟨D, rfl, by omega, .inl rfl, by simp⟩
            case round =>
              obtain ⟨m, rfl, hDm, hmJ, rfl⟩ := hrel
              by_cases hml : m ≤ J
              · obtain ⟨ad2, e2, p0, p1, p2, p3, p4, p5⟩ := at_T45 HS6.out.pay m (by omega) (by omega)
                cases e2
                simp only [Int.toNat_natCast] at p0 p1 p2 p3 p4 p5
                have F := (HF.out m (by omega)).due
                have CP := Aside0.mk (colP_succ (·.f1) R m (by omega))
                have j0 : (0 : Int) ≤ (m : Int) := Int.natCast_nonneg m
                have j1 : (m : Int) < (l.length : Int) := by omega
                have sI := HC1B.out m (by omega)
                have sD := HC1B.out D (by have := HD.out; omega)
                have hle : decide ((m : Int) ≤ (J : Int)) = true := decide_eq_true (by omega)
                have v1 : wrap64 (colP (·.f1) R m - colP (·.f1) R D + (rd_T45 R m).f1) = colP (·.f1) R m - colP (·.f1) R D + (rd_T45 R m).f1 := by unfold wrap64; omega
                clear F sI sD hmJ hIj hjJ
                go_wp2_with (fail)
                go_round
                case rel => exact ⟨m + 1, by go_num, by omega, by omega, by rw [CP.out]; go_num⟩
                case measure => simp [intOf]; omega
              · have hle : decide ((m : Int) ≤ (J : Int)) = false := decide_eq_false (by omega)
                have hle2 : colP (·.f2) R j - colP (·.f2) R I ≤ colP (·.f1) R m - colP (·.f1) R D := by
                  have := HD.out
                  by_cases hIJ : I ≤ J
                  · obtain rfl : j = J + 1 := by omega
                    obtain rfl : m = J + 1 := by omega
                    rw [HD.out]
                    exact HGD.out I J hIJ (by omega)
                  · obtain rfl : j = I := by omega
                    have := HC1M.out D m (by omega) (by omega)
                    omega
                have hle3 : decide (colP (·.f2) R j - colP (·.f2) R I > colP (·.f1) R m - colP (·.f1) R D) = false := decide_eq_false (by omega)
                generalize colP (·.f2) R j - colP (·.f2) R I = gv at hle3 ⊢
                generalize colP (·.f1) R m - colP (·.f1) R D = du at hle3 ⊢
                clear hle2 hmJ hIj hjJ hDm
                have HP6 : Aside0 (Kd.C k45 W6 A2 l.length R) := ⟨by have := HS6.out.pay; rwa [hRl] at this⟩
                have hln0 : (([] : List S45).length + l.length) * 48 ≤ 140737488355328 := by simp; omega
                have i0 : (0 : Int) ≤ (I : Int) := Int.natCast_nonneg I
                have i1 : (I : Int) < (l.length : Int) := by omega
                have HZ6 := Aside0.mk (Below.refl W6.heap.size W6)
                go_wp2_with (first
                  | ((with_reducible refine gate_dst (N := 254) rfl ?_); refine Kd.R_lit k45 (w0 := W6) W6.heap.size 45 ?hg (N := 254) ?hd (xs := ([] : List S45)) (inner := []) (ok := fun _ => True) (okp := fun _ => False) ?hr (Reps.none _ _) (fun _ hk => hk.elim) trivial HZ6.out HZ6.out.size (by simp) ?_; (case hd => rfl); (case hg => rfl); (case hr => first | (go_simp; done) | (go_simp; rfl)); intro v1 W7 ho hb hg hnew; have HE := Aside0.mk ho; have HB7 := Aside0.mk hb; clear ho hb hg hnew)
                  | ((with_reducible refine gate_builtin (b := .append) (xs := #[.tmp 254, .tmp 255]) rfl ?_); at_builtin; refine Kd.R_append_rows k45 (w0 := W6) W6.heap.size rfl (.tmp 254) (.tmp 255) 30 45 (.agg #[.int .i64 0, .int .i64 0, .int .i64 0, .int .i64 0, .int .i64 0, .int .i64 0]) 48 rfl Try.underlying30 info45 rfl (by decide) (by omega) v1 [] R A2 l.length c2 (fun _ => True) (fun _ => False) rfl rfl HE.out (Kd.C_below HP6.out HB7.out) (fun x cs hK => M_of_K45 x cs hK) (fun _ hk => hk.elim) (fun _ _ => trivial) HB7.out HB7.out.size hln0 ?_; intro v2 W8 ho hb hg hat; rw [List.nil_append] at ho; obtain ⟨g, cap, e, hgb, hgl, hgc⟩ := Kd.R_form ho (by omega); rw [hRl] at e; subst e; have HF8 := Aside0.mk ho; have HB8 := Aside0.mk hb; have HG8 := Aside0.mk hgb; have HGC := Aside0.mk hgc; clear ho hb hg hat hgb hgl hgc))
                have hRI : Aside0 (I < R.length) := ⟨by omega⟩
                have hmod : h % 6 < 6 := Int.emod_lt_of_pos _ (by omega)
                obtain ⟨M, hM⟩ : ∃ M : Nat, h % 6 = (M : Int) := ⟨(h % 6).toNat, (Int.toNat_of_nonneg (Int.emod_nonneg _ (by omega))).symm⟩
                have hM6 : M < 6 := by omega
                obtain ⟨q, hq⟩ : ∃ q, q = rd_T45 R I := ⟨_, rfl⟩
                obtain ⟨V, hV⟩ : ∃ V : Int, V = fld45 q M := ⟨_, rfl⟩
                have hVb : -1000000000000000 ≤ V ∧ V ≤ 1000000000000000 := by
                  obtain ⟨eE, most, arr, paid, reb, clean, full, rate, due, low, high, cap, se, sp, sr, y2, q4⟩ := HF.out I hIl
                  have := HARR.out I hIl
                  rw [hV, hq]
                  exact fld_bounds _ _ (by omega) (by omega) (by omega) (by omega) (by omega) (by omega)
                have xc : W8.cell? ⟨g, I * 6 + M, none⟩ = some (.int .i64 V) := by rw [hV, hq]; exact wrong_cell HF8.out hIl hM6
                have xf : W8.frozen? ⟨g, I * 6 + M, none⟩ = false := by obtain ⟨cells, hcc⟩ := HGC.out; exact blk_frozen hcc _
                have ix : ∀ W, (Instr.index 50 (.agg #[.pointer (some ⟨g, I * 6, none⟩), .pointer (some ⟨g, I * 6 + 1, none⟩), .pointer (some ⟨g, I * 6 + 2, none⟩), .pointer (some ⟨g, I * 6 + 3, none⟩), .pointer (some ⟨g, I * 6 + 4, none⟩), .pointer (some ⟨g, I * 6 + 5, none⟩)]) (.int .i64 (M : Int))).run Try.prog W = .ok (.pointer (some ⟨g, I * 6 + M, none⟩)) W := fun W => index_six (fun m => .pointer (some ⟨g, I * 6 + m, none⟩)) M hM6 W
                obtain ⟨N, hN⟩ : ∃ N : Int, h / 6 = N := ⟨_, rfl⟩
                have hq6 : 0 ≤ N ∧ N ≤ 42 := by omega
                have w1 : wrap64 (V + (1 + N)) = V + (1 + N) := by unfold wrap64; omega
                have w0 : wrap64 (1 + N) = 1 + N := by unfold wrap64; omega
                have w2 : IntKind.i64.wrap h = h := IntWalk.i64_in _ (by omega)
                have w3 : h.tmod 6 = (M : Int) := by rw [Int.tmod_eq_emod_of_nonneg (by omega), hM]
                have w4 : h.tdiv 6 = N := by rw [Int.tdiv_eq_ediv_of_nonneg (by omega), hN]
                have HMN := Aside0.mk (And.intro hM hN)
                clear hM hN hmod
                have HQ := Aside0.mk hq
                have HV := Aside0.mk hV
                clear hq hV i0 i1 hle3
                go_big_region
                have HB9 : Aside0 (Below W6.heap.size W6 (W8.setCell ⟨g, I * 6 + M, none⟩ (.int .i64 (V + (1 + N)))).drew) := ⟨(HB8.out.setCell HG8.out _).drew⟩
                have HP9 : Aside0 (Kd.C k45 (W8.setCell ⟨g, I * 6 + M, none⟩ (.int .i64 (V + (1 + N)))).drew (some ⟨g, 0, none⟩) l.length (R.set I (put45 q M (V + (1 + N))))) := ⟨by have := (Kd.R_reads' (wrong_set (V + (1 + N)) HF8.out hIl hM6)).2.2; rw [List.length_set, hRl, ← HQ.out] at this; exact Kd.C_drew this⟩
                have HCAP : Aside0 (l.length ≤ cap) := ⟨(Kd.R_reads' HF8.out).2.1⟩
                generalize (W8.setCell ⟨g, I * 6 + M, none⟩ (.int .i64 (V + (1 + N)))).drew = W9 at HB9 HP9 ⊢
                have HS9 := Aside0.mk (HS6.out.next HB9.out)
                have HSC : Aside0 (∀ W, Kd.C k47 W A1 l.length l → Kd.C k45 W (some ⟨g, 0, none⟩) l.length (R.set I (put45 q M (V + (1 + N)))) → Calls Try.prog 17 #[actV a, .slice A1 l.length c1, .slice (some ⟨g, 0, none⟩) l.length cap] W (CheckPost ((I : Int), 11) W)) := ⟨fun W h h2 => by
                  have hl2 : (R.set I (put45 q M (V + (1 + N)))).length = l.length := by rw [List.length_set, hRl]
                  have := HChk.out W (R.set I (put45 q M (V + (1 + N)))) (some ⟨g, 0, none⟩) cap h (by rw [hl2]; exact h2) (by rw [hl2]; exact HCAP.out)
                  rw [HSET.out I _ hIl (by rw [← HQ.out]; exact put45_ne q M _ (by rw [← HV.out]; omega)), hl2] at this
                  exact this⟩
                have HTC : Aside0 (∀ W, Kd.C k47 W A1 l.length l → Kd.C k45 W A2 I (R.take I) → Calls Try.prog 17 #[actV a, .slice A1 l.length c1, .slice A2 I c2] W (CheckPost ((I : Int), 4) W)) := ⟨fun W h h2 => by
                  have hl2 : (R.take I).length = I := by rw [List.length_take]; omega
                  have := HChk.out W (R.take I) A2 c2 h (by rw [hl2]; exact h2) (by rw [hl2]; have := Hc2.out; omega)
                  rw [HTAKE.out I hIl, hl2] at this
                  exact this⟩
                clear w1 w0 w2 w3 w4 ix xc xf hVb hq6 hM6 hle hln0 HE HB7 HZ6 HF8 HB8 HG8 HGC
                have s0 : W9.cell? ⟨w.heap.size, 0, none⟩ = some (.int .i64 a.f0) := cell_two HS9.out.act 0 rfl
                have s1 : W9.cell? ⟨w.heap.size, 1, none⟩ = some (.int .i64 a.f1) := cell_two HS9.out.act 1 rfl
                have s2 : W9.cell? ⟨w.heap.size, 2, none⟩ = some (.int .i64 a.f2) := cell_two HS9.out.act 2 rfl
                have s3 : W9.cell? ⟨w.heap.size, 3, none⟩ = some (.int .i64 a.f3) := cell_two HS9.out.act 3 rfl
                have s4 : W9.cell? ⟨w.heap.size, 4, none⟩ = some (.int .i64 a.f4) := cell_two HS9.out.act 4 rfl
                have s5 : W9.cell? ⟨w.heap.size, 5, none⟩ = some (.int .i64 a.f5) := cell_two HS9.out.act 5 rfl
                have i0 : (0 : Int) ≤ (I : Int) := Int.natCast_nonneg I
                have i1 : (I : Int) < (l.length : Int) := by omega
                have i2 : I ≤ c2 := by have := Hc2.out; omega
                have i3 : (I : Int) ≤ (c2 : Int) := by omega
                go_wp2_with (first
                  | (go_at_call 17; refine (HSC.out _ HS9.out.yrs HP9.out).mono ?_; rintro e W10 ⟨rfl, hb⟩; have HS10 := Aside0.mk (HS9.out.next hb); clear hb s0 s1 s2 s3 s4 s5; have s0 : W10.cell? ⟨w.heap.size, 0, none⟩ = some (.int .i64 a.f0) := cell_two HS10.out.act 0 rfl; have s1 : W10.cell? ⟨w.heap.size, 1, none⟩ = some (.int .i64 a.f1) := cell_two HS10.out.act 1 rfl; have s2 : W10.cell? ⟨w.heap.size, 2, none⟩ = some (.int .i64 a.f2) := cell_two HS10.out.act 2 rfl; have s3 : W10.cell? ⟨w.heap.size, 3, none⟩ = some (.int .i64 a.f3) := cell_two HS10.out.act 3 rfl; have s4 : W10.cell? ⟨w.heap.size, 4, none⟩ = some (.int .i64 a.f4) := cell_two HS10.out.act 4 rfl; have s5 : W10.cell? ⟨w.heap.size, 5, none⟩ = some (.int .i64 a.f5) := cell_two HS10.out.act 5 rfl))
                refine start_ (n := 11) (S := fun w' => w'.cell? ⟨w.heap.size, 0, none⟩ = some (.int .i64 a.f0) ∧ w'.cell? ⟨w.heap.size, 1, none⟩ = some (.int .i64 a.f1) ∧ w'.cell? ⟨w.heap.size, 2, none⟩ = some (.int .i64 a.f2) ∧ w'.cell? ⟨w.heap.size, 3, none⟩ = some (.int .i64 a.f3) ∧ w'.cell? ⟨w.heap.size, 4, none⟩ = some (.int .i64 a.f4) ∧ w'.cell? ⟨w.heap.size, 5, none⟩ = some (.int .i64 a.f5)) (ds := []) (bs_ 11 0) (by kernel_rfl) rfl rfl (⟨s0, s1, s2, s3, s4, s5⟩) (fun hHeld => ?_)
                clear s0 s1 s2 s3 s4 s5
                have HS11 := Aside0.mk (HS10.out.next (below_drew (Below.refl _ W10)))
                generalize W10.drew = W11 at HS11 hHeld ⊢
                have HTK : Aside0 (Kd.C k45 W11 A2 I (R.take I)) := ⟨by have h2 : Kd.C k45 W11 A2 R.length R := HS11.out.pay; have h3 := Kd.C_take h2 (show I ≤ R.length by omega); rwa [List.length_take, show min I R.length = I by omega] at h3⟩
                refine take_ (i := 0) (N := some 299) (v := ?_) (a' := ?_) (bs_ 11 1) rfl rfl (by kernel_rfl) (fun _ _ _ h => h) (Or.inl ⟨by rfl, ?_⟩) hHeld ?_ ?_; rotate_left; (· rintro w' ⟨s0, s1, s2, s3, s4, s5⟩; go_simp; with_reducible rfl); rotate_left; (· simp only [Act.put, N1_]; rfl)
                refine pure_ (i := 1) (N := some 300) (v := ?_) (a' := ?_) (bs_ 11 3) rfl rfl (by kernel_rfl) (fun _ _ _ h => h) (Or.inl ⟨by rfl, ?_⟩) ?_ ?_; rotate_left; (· intro w'; go_simp; with_reducible rfl); rotate_left; (· simp only [Act.put, N1_]; rfl)
                refine pure_ (i := 2) (N := some 301) (v := ?_) (a' := ?_) (bs_ 11 7) rfl rfl (by kernel_rfl) (fun _ _ _ h => h) (Or.inl ⟨by rfl, ?_⟩) ?_ ?_; rotate_left; (· intro w'; go_simp; with_reducible rfl); rotate_left; (· simp only [Act.put, N1_]; rfl)
                refine pure_ (i := 3) (N := some 302) (v := ?_) (a' := ?_) (bs_ 11 15) rfl rfl (by kernel_rfl) (fun _ _ _ h => h) (Or.inl ⟨by rfl, ?_⟩) ?_ ?_; rotate_left; (· intro w'; go_simp; with_reducible rfl); rotate_left; (· simp only [Act.put, N1_]; rfl)
                refine pure_ (i := 4) (N := some 303) (v := ?_) (a' := ?_) (bs_ 11 31) rfl rfl (by kernel_rfl) (fun _ _ _ h => h) (Or.inl ⟨by rfl, ?_⟩) ?_ ?_; rotate_left; (· intro w'; go_simp; with_reducible rfl); rotate_left; (· simp only [Act.put, N1_]; rfl)
                refine one_ (i := 5) (N := some 304) (bs_ 11 63) rfl rfl (by kernel_rfl) (by decide) (fun K hK => ?_)
                refine goes_ Try.func17 (by kernel_rfl) rfl #[(.agg #[.int .i64 a.f0, .int .i64 a.f1, .int .i64 a.f2, .int .i64 a.f3, .int .i64 a.f4, .int .i64 a.f5]), .slice A1 l.length c1, .slice A2 I c2] (by rfl) rfl rfl (by (try simp only [LM_]); try rfl) ?_
                refine (HTC.out _ HS11.out.yrs HTK.out).mono ?_
                rintro e W12 ⟨rfl, hb⟩
                refine ⟨_, rfl, ?_⟩
                have HS12 := Aside0.mk (HS11.out.next hb)
                clear hb hHeld
                refine hK.out _ _ ⟨cell_two HS12.out.act 0 rfl, cell_two HS12.out.act 1 rfl, cell_two HS12.out.act 2 rfl, cell_two HS12.out.act 3 rfl, cell_two HS12.out.act 4 rfl, cell_two HS12.out.act 5 rfl⟩ (fun hHeld => ?_)
                clear hK K
                refine norm_ (a' := ?_) ?_ ?_; rotate_left; (· show Act.put _ (some 304) _ = _; simp only [Act.put, N1_]; rfl)
                refine pure_ (i := 6) (N := some 298) (v := ?_) (a' := ?_) (bs_ 11 127) rfl rfl (by kernel_rfl) (fun _ _ _ h => h) (Or.inl ⟨by rfl, ?_⟩) ?_ ?_; rotate_left; (· intro w'; go_simp; with_reducible rfl); rotate_left; (· simp only [Act.put, N1_]; rfl)
                refine pure_ (i := 7) (N := some 305) (v := ?_) (a' := ?_) (bs_ 11 255) rfl rfl (by kernel_rfl) (fun _ _ _ h => h) (Or.inl ⟨by rfl, ?_⟩) ?_ ?_; rotate_left; (· intro w'; go_simp; with_reducible rfl); rotate_left; (· simp only [Act.put, N1_]; rfl)
                refine pure_ (i := 8) (N := some 306) (v := ?_) (a' := ?_) (bs_ 11 511) rfl rfl (by kernel_rfl) (fun _ _ _ h => h) (Or.inl ⟨by rfl, ?_⟩) ?_ ?_; rotate_left; (· intro w'; go_simp; with_reducible rfl); rotate_left; (· simp only [Act.put, N1_]; rfl)
                refine pure_ (i := 9) (N := some 30) (v := ?_) (a' := ?_) (bs_ 11 1023) rfl rfl (by kernel_rfl) (fun _ _ _ h => h) (Or.inl ⟨by rfl, ?_⟩) ?_ ?_; rotate_left; (· intro w'; go_simp; with_reducible rfl); rotate_left; (· simp only [Act.put, N1_]; rfl)
                refine pure_ (i := 10) (N := some 31) (v := ?_) (a' := ?_) (bs_ 11 2047) rfl rfl (by kernel_rfl) (fun _ _ _ h => h) (Or.inl ⟨by rfl, ?_⟩) ?_ ?_; rotate_left; (· intro w'; go_simp; with_reducible rfl); rotate_left; (· simp only [Act.put, N1_]; rfl)
                refine done_ (by kernel_rfl) ?_
                go_wp2_with (fail)
                clear s0 s1 s2 s3 s4 s5 hHeld
                have s0 : W12.cell? ⟨w.heap.size, 0, none⟩ = some (.int .i64 a.f0) := cell_two HS12.out.act 0 rfl
                have s1 : W12.cell? ⟨w.heap.size, 1, none⟩ = some (.int .i64 a.f1) := cell_two HS12.out.act 1 rfl
                have s2 : W12.cell? ⟨w.heap.size, 2, none⟩ = some (.int .i64 a.f2) := cell_two HS12.out.act 2 rfl
                have s3 : W12.cell? ⟨w.heap.size, 3, none⟩ = some (.int .i64 a.f3) := cell_two HS12.out.act 3 rfl
                have s4 : W12.cell? ⟨w.heap.size, 4, none⟩ = some (.int .i64 a.f4) := cell_two HS12.out.act 4 rfl
                have s5 : W12.cell? ⟨w.heap.size, 5, none⟩ = some (.int .i64 a.f5) := cell_two HS12.out.act 5 rfl
                have HS0 := Aside0.mk (HS12.out.next (below_drew (Below.refl _ W12)))
                have hln0 : (([] : List S45).length + l.length) * 48 ≤ 140737488355328 := by simp; omega
                have hln1 : (R.length + 1) * 48 ≤ 140737488355328 := by omega
                refine start_ (n := 14) (S := fun w' => w'.cell? ⟨w.heap.size, 0, none⟩ = some (.int .i64 a.f0) ∧ w'.cell? ⟨w.heap.size, 1, none⟩ = some (.int .i64 a.f1) ∧ w'.cell? ⟨w.heap.size, 2, none⟩ = some (.int .i64 a.f2) ∧ w'.cell? ⟨w.heap.size, 3, none⟩ = some (.int .i64 a.f3) ∧ w'.cell? ⟨w.heap.size, 4, none⟩ = some (.int .i64 a.f4) ∧ w'.cell? ⟨w.heap.size, 5, none⟩ = some (.int .i64 a.f5)) (ds := []) (bs_ 14 0) (by kernel_rfl) rfl rfl ⟨s0, s1, s2, s3, s4, s5⟩ (fun hHeld => ?_)
                clear s0 s1 s2 s3 s4 s5
                generalize W12.drew = W0 at HS0 hHeld ⊢
                have HC0r : Aside0 (Kd.C k45 W0 A2 l.length R) := ⟨by have := HS0.out.pay; rwa [hRl] at this⟩
                have HB0r := Aside0.mk (Below.refl W0.heap.size W0)
                have HAT : Aside0 (∀ W', Below W0.heap.size W0 W' → W'.cell? ⟨w.heap.size, 0, none⟩ = some (.int .i64 a.f0) ∧ W'.cell? ⟨w.heap.size, 1, none⟩ = some (.int .i64 a.f1) ∧ W'.cell? ⟨w.heap.size, 2, none⟩ = some (.int .i64 a.f2) ∧ W'.cell? ⟨w.heap.size, 3, none⟩ = some (.int .i64 a.f3) ∧ W'.cell? ⟨w.heap.size, 4, none⟩ = some (.int .i64 a.f4) ∧ W'.cell? ⟨w.heap.size, 5, none⟩ = some (.int .i64 a.f5)) := ⟨fun W' hb => ⟨cell_two (blk_below HS0.out.act hb) 0 rfl, cell_two (blk_below HS0.out.act hb) 1 rfl, cell_two (blk_below HS0.out.act hb) 2 rfl, cell_two (blk_below HS0.out.act hb) 3 rfl, cell_two (blk_below HS0.out.act hb) 4 rfl, cell_two (blk_below HS0.out.act hb) 5 rfl⟩⟩
                refine take_ (i := 0) (N := some 308) (v := ?_) (a' := ?_) (bs_ 14 1) rfl rfl (by kernel_rfl) (fun _ _ _ h => h) (Or.inl ⟨by rfl, ?_⟩) hHeld ?_ ?_; rotate_left; (· rintro w' ⟨s0, s1, s2, s3, s4, s5⟩; go_simp; with_reducible rfl); rotate_left; (· simp only [Act.put, N1_]; rfl)
                refine pure_ (i := 1) (N := some 309) (v := ?_) (a' := ?_) (bs_ 14 3) rfl rfl (by kernel_rfl) (fun _ _ _ h => h) (Or.inl ⟨by rfl, ?_⟩) ?_ ?_; rotate_left; (· intro w'; go_simp; with_reducible rfl); rotate_left; (· simp only [Act.put, N1_]; rfl)
                refine pure_ (i := 3) (N := some 311) (v := ?_) (a' := ?_) (bs_ 14 11) rfl rfl (by kernel_rfl) (fun _ _ _ h => h) (Or.inl ⟨by rfl, ?_⟩) ?_ ?_; rotate_left; (· intro w'; go_simp; with_reducible rfl); rotate_left; (· simp only [Act.put, N1_]; rfl)
                refine pure_ (i := 5) (N := some 313) (v := ?_) (a' := ?_) (bs_ 14 43) rfl rfl (by kernel_rfl) (fun _ _ _ h => h) (Or.inl ⟨by rfl, ?_⟩) ?_ ?_; rotate_left; (· intro w'; go_simp; with_reducible rfl); rotate_left; (· simp only [Act.put, N1_]; rfl)
                clear hHeld
                refine join_ (σ := Value × Value × Value) 7 (bs_ 14 127) (fun s => [(310, s.1), (312, s.2.1), (314, s.2.2)]) (fun s w' => Kd.R k45 45 w' W0.heap.size (fun _ => True) s.2.1 R ∧ Kd.R k45 45 w' W0.heap.size (fun _ => True) s.2.2 [⟨0, 0, 0, 0, 0, 0⟩] ∧ Below W0.heap.size W0 w') ?_ ?_
                rotate_left
                · intro hCont
                  refine two_ (i := 2) (j := 6) (Ni := some 310) (Nj := some 314) (bs_ 14 47) (bs_ 14 107) rfl rfl rfl rfl (by kernel_rfl) (by decide) (by decide) (fun K hK => ?_) (fun K hK => ?_)
                  · skip
                    refine Kd.R_lit_step k45 (w0 := W0) W0.heap.size 45 (by rfl) (N := 310) (by rfl) (xs := ([] : List S45)) (inner := []) (ok := fun _ => True) (okp := fun _ => False) ?hr (Reps.none _ _) (fun _ hk => hk.elim) trivial HB0r.out HB0r.out.size (by simp) ?_; (case hr => first | (go_simp; done) | (go_simp; rfl))
                    intro v89 W1 ho hb hg hat
                    have HE := Aside0.mk ho
                    have HB1 := Aside0.mk hb
                    clear ho hb hg hat
                    refine hK.out _ _ (HAT.out _ HB1.out) (fun hHeld => ?_)
                    clear hK K
                    refine norm_ (a' := ?_) ?_ ?_; rotate_left; (· show Act.put _ (some 310) _ = _; simp only [Act.put, N1_]; rfl)
                    refine two_ (i := 4) (j := 6) (Ni := some 312) (Nj := some 314) (bs_ 14 63) (bs_ 14 111) rfl rfl rfl rfl (by kernel_rfl) (by decide) (by decide) (fun K hK => ?_) (fun K hK => ?_)
                    · skip
                      refine Kd.R_append_rows_step k45 (w0 := W0) W0.heap.size (by rfl) (.tmp 310) (.tmp 311) 30 45 (.agg #[.int .i64 0, .int .i64 0, .int .i64 0, .int .i64 0, .int .i64 0, .int .i64 0]) 48 (by rfl) Try.underlying30 info45 rfl (by decide) (by omega) v89 [] R A2 l.length c2 (fun _ => True) (fun _ => False) rfl rfl (Kd.R_mono HE.out (fun _ _ => trivial)) (Kd.C_below HC0r.out HB1.out) (fun x cs hK => M_of_K45 x cs hK) (fun _ hk => hk.elim) (fun _ _ => trivial) HB1.out HB1.out.size hln0 ?_
                      intro v92 W2 ho hb hg hat
                      rw [List.nil_append] at ho
                      have HF := Aside0.mk ho
                      have HB2 := Aside0.mk hb
                      clear ho hb hg hat hHeld
                      refine hK.out _ _ (HAT.out _ HB2.out) (fun hHeld => ?_)
                      clear hK K
                      refine norm_ (a' := ?_) ?_ ?_; rotate_left; (· show Act.put _ (some 312) _ = _; simp only [Act.put, N1_]; rfl)
                      refine one_ (i := 6) (N := some 314) (bs_ 14 127) rfl rfl (by kernel_rfl) (by decide) (fun K hK => ?_)
                      refine Kd.R_lit_step k45 (w0 := W0) W0.heap.size 45 (by rfl) (N := 314) (by rfl) (xs := [(⟨0, 0, 0, 0, 0, 0⟩ : S45)]) (inner := [.int .i64 0, .int .i64 0, .int .i64 0, .int .i64 0, .int .i64 0, .int .i64 0]) (ok := fun k => k = W2.heap.size) (okp := fun _ => False) ?hr (reps45_one _ _ _ _) (fun _ hk => hk.elim) rfl HB2.out HB2.out.size (by simp) ?_; (case hr => first | (go_simp; done) | (go_simp; rfl))
                      intro v107 W3 ho hb hg hat
                      have HG := Aside0.mk ho
                      have HB3 := Aside0.mk hb
                      have HF3 := Aside0.mk (Kd.R_grown HF.out hg (fun _ _ => by simp))
                      clear ho hb hg hat hHeld
                      refine hK.out _ _ (HAT.out _ HB3.out) (fun hHeld => ?_)
                      clear hK K
                      refine norm_ (a' := ?_) ?_ ?_; rotate_left; (· show Act.put _ (some 314) _ = _; simp only [Act.put, N1_]; rfl)
                      exact norm_ (by first | (simp only [putAll, Act.put, List.setIfInBounds_toArray, List.set_cons_zero, List.set_cons_succ]; done) | (simp only [putAll, Act.put, List.setIfInBounds_toArray, List.set_cons_zero, List.set_cons_succ]; rfl)) (hCont (v89, v92, v107) _ ⟨HF3.out, Kd.R_mono HG.out (fun _ _ => trivial), HB3.out⟩)
                    · skip
                      refine Kd.R_lit_step k45 (w0 := W0) W0.heap.size 45 (by rfl) (N := 314) (by rfl) (xs := [(⟨0, 0, 0, 0, 0, 0⟩ : S45)]) (inner := [.int .i64 0, .int .i64 0, .int .i64 0, .int .i64 0, .int .i64 0, .int .i64 0]) (ok := fun k => k = W1.heap.size) (okp := fun _ => False) ?hr (reps45_one _ _ _ _) (fun _ hk => hk.elim) rfl HB1.out HB1.out.size (by simp) ?_; (case hr => first | (go_simp; done) | (go_simp; rfl))
                      intro v107 W2 ho hb hg hat
                      have HG := Aside0.mk ho
                      have HB2 := Aside0.mk hb
                      have HE2 := Aside0.mk (Kd.R_grown HE.out hg (fun _ _ => by simp))
                      clear ho hb hg hat hHeld
                      refine hK.out _ _ (HAT.out _ HB2.out) (fun hHeld => ?_)
                      clear hK K
                      refine norm_ (a' := ?_) ?_ ?_; rotate_left; (· show Act.put _ (some 314) _ = _; simp only [Act.put, N1_]; rfl)
                      refine one_ (i := 4) (N := some 312) (bs_ 14 127) rfl rfl (by kernel_rfl) (by decide) (fun K hK => ?_)
                      refine Kd.R_append_rows_step k45 (w0 := W0) W0.heap.size (by rfl) (.tmp 310) (.tmp 311) 30 45 (.agg #[.int .i64 0, .int .i64 0, .int .i64 0, .int .i64 0, .int .i64 0, .int .i64 0]) 48 (by rfl) Try.underlying30 info45 rfl (by decide) (by omega) v89 [] R A2 l.length c2 (fun _ => True) (fun _ => False) rfl rfl (Kd.R_mono HE2.out (fun _ _ => trivial)) (Kd.C_below HC0r.out HB2.out) (fun x cs hK => M_of_K45 x cs hK) (fun _ hk => hk.elim) (fun _ _ => trivial) HB2.out HB2.out.size hln0 ?_
                      intro v92 W3 ho hb hg hat
                      rw [List.nil_append] at ho
                      have HF3 := Aside0.mk ho
                      have HB3 := Aside0.mk hb
                      have HG3 := Aside0.mk (Kd.R_grown HG.out hg (fun k hk e => by have := Kd.R_lt HE.out k e.symm; omega))
                      clear ho hb hg hat hHeld
                      refine hK.out _ _ (HAT.out _ HB3.out) (fun hHeld => ?_)
                      clear hK K
                      refine norm_ (a' := ?_) ?_ ?_; rotate_left; (· show Act.put _ (some 312) _ = _; simp only [Act.put, N1_]; rfl)
                      exact norm_ (by first | (simp only [putAll, Act.put, List.setIfInBounds_toArray, List.set_cons_zero, List.set_cons_succ]; done) | (simp only [putAll, Act.put, List.setIfInBounds_toArray, List.set_cons_zero, List.set_cons_succ]; rfl)) (hCont (v89, v92, v107) _ ⟨HF3.out, Kd.R_mono HG3.out (fun _ _ => trivial), HB3.out⟩)
                  · skip
                    refine Kd.R_lit_step k45 (w0 := W0) W0.heap.size 45 (by rfl) (N := 314) (by rfl) (xs := [(⟨0, 0, 0, 0, 0, 0⟩ : S45)]) (inner := [.int .i64 0, .int .i64 0, .int .i64 0, .int .i64 0, .int .i64 0, .int .i64 0]) (ok := fun k => k = W0.heap.size) (okp := fun _ => False) ?hr (reps45_one _ _ _ _) (fun _ hk => hk.elim) rfl HB0r.out HB0r.out.size (by simp) ?_; (case hr => first | (go_simp; done) | (go_simp; rfl))
                    intro v107 W1 ho hb hg hat
                    have HG := Aside0.mk ho
                    have HB1 := Aside0.mk hb
                    have HN := Aside0.mk (new_lt ho hat)
                    clear ho hb hg hat
                    refine hK.out _ _ (HAT.out _ HB1.out) (fun hHeld => ?_)
                    clear hK K
                    refine norm_ (a' := ?_) ?_ ?_; rotate_left; (· show Act.put _ (some 314) _ = _; simp only [Act.put, N1_]; rfl)
                    refine one_ (i := 2) (N := some 310) (bs_ 14 111) rfl rfl (by kernel_rfl) (by decide) (fun K hK => ?_)
                    refine Kd.R_lit_step k45 (w0 := W0) W0.heap.size 45 (by rfl) (N := 310) (by rfl) (xs := ([] : List S45)) (inner := []) (ok := fun k => k ≠ W0.heap.size) (okp := fun _ => False) ?hr (Reps.none _ _) (fun _ hk => hk.elim) HN.out HB1.out HB1.out.size (by simp) ?_; (case hr => first | (go_simp; done) | (go_simp; rfl))
                    intro v89 W2 ho hb hg hat
                    have HE := Aside0.mk ho
                    have HB2 := Aside0.mk hb
                    have HG2 := Aside0.mk (Kd.R_grown HG.out hg (fun _ _ => by simp))
                    clear ho hb hg hat hHeld
                    refine hK.out _ _ (HAT.out _ HB2.out) (fun hHeld => ?_)
                    clear hK K
                    refine norm_ (a' := ?_) ?_ ?_; rotate_left; (· show Act.put _ (some 310) _ = _; simp only [Act.put, N1_]; rfl)
                    refine one_ (i := 4) (N := some 312) (bs_ 14 127) rfl rfl (by kernel_rfl) (by decide) (fun K hK => ?_)
                    refine Kd.R_append_rows_step k45 (w0 := W0) W0.heap.size (by rfl) (.tmp 310) (.tmp 311) 30 45 (.agg #[.int .i64 0, .int .i64 0, .int .i64 0, .int .i64 0, .int .i64 0, .int .i64 0]) 48 (by rfl) Try.underlying30 info45 rfl (by decide) (by omega) v89 [] R A2 l.length c2 (fun _ => True) (fun _ => False) rfl rfl (Kd.R_mono HE.out (fun _ _ => trivial)) (Kd.C_below HC0r.out HB2.out) (fun x cs hK => M_of_K45 x cs hK) (fun _ hk => hk.elim) (fun _ _ => trivial) HB2.out HB2.out.size hln0 ?_
                    intro v92 W3 ho hb hg hat
                    rw [List.nil_append] at ho
                    have HF3 := Aside0.mk ho
                    have HB3 := Aside0.mk hb
                    have HG3 := Aside0.mk (Kd.R_grown HG2.out hg (fun k hk e => HE.out.1 k e.symm hk))
                    clear ho hb hg hat hHeld
                    refine hK.out _ _ (HAT.out _ HB3.out) (fun hHeld => ?_)
                    clear hK K
                    refine norm_ (a' := ?_) ?_ ?_; rotate_left; (· show Act.put _ (some 312) _ = _; simp only [Act.put, N1_]; rfl)
                    exact norm_ (by first | (simp only [putAll, Act.put, List.setIfInBounds_toArray, List.set_cons_zero, List.set_cons_succ]; done) | (simp only [putAll, Act.put, List.setIfInBounds_toArray, List.set_cons_zero, List.set_cons_succ]; rfl)) (hCont (v89, v92, v107) _ ⟨HF3.out, Kd.R_mono HG3.out (fun _ _ => trivial), HB3.out⟩)
                rintro ⟨v89, v92, v107⟩ W3 ⟨h92, h107, hb⟩
                obtain ⟨g2, cap2, rfl, gb0, gl0, gcs, gbk⟩ := Kd.R_form h107 (by simp)
                have HF2 := Aside0.mk h92
                have HG := Aside0.mk h107
                have HB3 := Aside0.mk hb
                clear h92 h107 hb gb0 gl0 gbk
                refine norm_ (a' := ?_) ?_ ?_; rotate_left; (· simp only [putAll, Act.put, List.setIfInBounds_toArray, List.set_cons_zero, List.set_cons_succ]; rfl)
                refine one_ (i := 7) (N := some 315) (bs_ 14 255) rfl rfl (by kernel_rfl) (by decide) (fun K hK => ?_)
                refine Kd.R_append_rows_step k45 (w0 := W0) W0.heap.size (by rfl) (.tmp 312) (.tmp 314) 30 45 (.agg #[.int .i64 0, .int .i64 0, .int .i64 0, .int .i64 0, .int .i64 0, .int .i64 0]) 48 (by rfl) Try.underlying30 info45 rfl (by decide) (by omega) v92 R [⟨0, 0, 0, 0, 0, 0⟩] (some ⟨g2, 0, none⟩) [(⟨0, 0, 0, 0, 0, 0⟩ : S45)].length cap2 (fun _ => True) (fun _ => False) rfl rfl HF2.out (Kd.R_reads' HG.out).2.2 (fun x cs hK => M_of_K45 x cs hK) (fun _ hk => hk.elim) (fun _ _ => trivial) HB3.out HB3.out.size hln1 ?_
                intro v108 W15 ho hb hg hat
                obtain ⟨Am, cm, e⟩ := Kd.R_slice ho
                rw [show (R ++ [(⟨0, 0, 0, 0, 0, 0⟩ : S45)]).length = l.length + 1 by rw [List.length_append, hRl]; rfl] at e
                subst e
                have HM := Aside0.mk ho
                have HS15 := Aside0.mk (HS0.out.next hb)
                refine hK.out _ _ (HAT.out _ hb) (fun hHeld => ?_)
                clear hK K ho hb hg hat HF2 HG HB3
                refine norm_ (a' := ?_) ?_ ?_; rotate_left; (· show Act.put _ (some 315) _ = _; simp only [Act.put, N1_]; rfl)
                have HMC : Aside0 (Calls Try.prog 17 #[actV a, .slice A1 l.length c1, .slice Am (l.length + 1) cm] W15 (CheckPost ((l.length : Int), 11) W15)) := ⟨by
                  have hl2 : (R ++ [(⟨0, 0, 0, 0, 0, 0⟩ : S45)]).length = l.length + 1 := by rw [List.length_append, hRl]; rfl
                  have h3 := Kd.R_reads' HM.out
                  have := HChk.out W15 (R ++ [(⟨0, 0, 0, 0, 0, 0⟩ : S45)]) Am cm HS15.out.yrs h3.2.2 (by rw [hl2]; exact h3.2.1)
                  rw [HMORE.out, hl2] at this
                  exact this⟩
                refine one_ (i := 8) (N := some 316) (bs_ 14 511) rfl rfl (by kernel_rfl) (by decide) (fun K hK => ?_)
                refine goes_ Try.func17 (by kernel_rfl) rfl #[(.agg #[.int .i64 a.f0, .int .i64 a.f1, .int .i64 a.f2, .int .i64 a.f3, .int .i64 a.f4, .int .i64 a.f5]), .slice A1 l.length c1, .slice Am (l.length + 1) cm] (by rfl) rfl rfl (by (try simp only [LM_]); try rfl) ?_
                refine HMC.out.mono ?_
                rintro e W16 ⟨rfl, hb⟩
                refine ⟨_, rfl, ?_⟩
                have HS16 := Aside0.mk (HS15.out.next hb)
                clear hb hHeld
                refine hK.out _ _ ⟨cell_two HS16.out.act 0 rfl, cell_two HS16.out.act 1 rfl, cell_two HS16.out.act 2 rfl, cell_two HS16.out.act 3 rfl, cell_two HS16.out.act 4 rfl, cell_two HS16.out.act 5 rfl⟩ (fun hHeld => ?_)
                clear hK K
                refine norm_ (a' := ?_) ?_ ?_; rotate_left; (· show Act.put _ (some 316) _ = _; simp only [Act.put, N1_]; rfl)
                refine pure_ (i := 9) (N := some 307) (v := ?_) (a' := ?_) (bs_ 14 1023) rfl rfl (by kernel_rfl) (fun _ _ _ h => h) (Or.inl ⟨by rfl, ?_⟩) ?_ ?_; rotate_left; (· intro w'; go_simp; with_reducible rfl); rotate_left; (· simp only [Act.put, N1_]; rfl)
                refine pure_ (i := 10) (N := some 317) (v := ?_) (a' := ?_) (bs_ 14 2047) rfl rfl (by kernel_rfl) (fun _ _ _ h => h) (Or.inl ⟨by rfl, ?_⟩) ?_ ?_; rotate_left; (· intro w'; go_simp; with_reducible rfl); rotate_left; (· simp only [Act.put, N1_]; rfl)
                refine pure_ (i := 11) (N := some 318) (v := ?_) (a' := ?_) (bs_ 14 4095) rfl rfl (by kernel_rfl) (fun _ _ _ h => h) (Or.inl ⟨by rfl, ?_⟩) ?_ ?_; rotate_left; (· intro w'; go_simp; with_reducible rfl); rotate_left; (· simp only [Act.put, N1_]; rfl)
                refine pure_ (i := 12) (N := some 32) (v := ?_) (a' := ?_) (bs_ 14 8191) rfl rfl (by kernel_rfl) (fun _ _ _ h => h) (Or.inl ⟨by rfl, ?_⟩) ?_ ?_; rotate_left; (· intro w'; go_simp; with_reducible rfl); rotate_left; (· simp only [Act.put, N1_]; rfl)
                refine pure_ (i := 13) (N := some 33) (v := ?_) (a' := ?_) (bs_ 14 16383) rfl rfl (by kernel_rfl) (fun _ _ _ h => h) (Or.inl ⟨by rfl, ?_⟩) ?_ ?_; rotate_left; (· intro w'; go_simp; with_reducible rfl); rotate_left; (· simp only [Act.put, N1_]; rfl)
                refine done_ (by kernel_rfl) ?_
                clear hHeld HAT HMC
                go_wp2_with (first
                  | (go_at_call 14; refine (alive_any _).mono ?_; rintro e W17 ⟨rfl, hb⟩; have HB17 := Aside0.mk (bl_next' HS16.out.bel hb); clear hb))
                go_ret
                exact ⟨rfl, HB17.out⟩
end Go.Proofs.Ytnammdkpejocmaa.Print
