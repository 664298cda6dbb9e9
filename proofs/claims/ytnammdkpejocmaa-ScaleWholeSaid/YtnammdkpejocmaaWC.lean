/- ScaleWhole: the ways beside the main one; the law. -/
import Derived.Test.YtnammdkpejocmaaWB
namespace Go.Proofs.Ytnammdkpejocmaa.Print
open Go.RowKit Go.Proofs.YtnammdkpejocmaaW.PrintWords Go.Proofs.YtnammdkpejocmaaW.PrintLast Go.Proofs.YtnammdkpejocmaaW.PrintMore
set_option linter.unusedVariables false
set_option linter.unusedSimpArgs false
attribute [local go_sem] Oper.semAt_some
set_option maxHeartbeats 4000000 in
set_option maxRecDepth 1000000 in
theorem whole_big (a : S23) (A1 : Option Addr) (c1 : Nat) (l : List S47) (f t h : Int) (w : World) (h24 : 24 < l.length) (hm : l.length ≤ 9223372036854775807) :
    Calls Try.prog 6 #[actV a, .slice A1 l.length c1, .int .u8 f, .int .u8 t, .int .u8 h] w fun e w' => e = .returned (.bool true) ∧ Below w.heap.size w w' := by
  have hlen : decide ((l.length : Int) > 24) = true := decide_eq_true (by omega)
  have HB0 := Aside0.mk (below_alloc (Below.refl w.heap.size w) (actC a))
  go_enter Try.func6, Try.ntmps6
  go_wp2_with (go_at_call 14; refine (alive_any _).mono ?_; rintro e W1 ⟨rfl, hb⟩; have HB1 := Aside0.mk (bl_next' HB0.out hb); clear hb)
  go_ret
  exact ⟨rfl, HB1.out⟩
set_option maxHeartbeats 4000000 in
set_option maxRecDepth 1000000 in
theorem whole_err (a : S23) (A1 : Option Addr) (c1 : Nat) (l : List S47) (f t h er : Int) (w : World) (hr : Kd.C k47 w A1 l.length l) (hc : l.length ≤ c1) (h24 : l.length ≤ 24) (he : er ≠ 0) (hR : runS a l = ([], er)) (b : Bool) (hab : actB a = b) (h1 : (er == 1) = !b) :
    Calls Try.prog 6 #[actV a, .slice A1 l.length c1, .int .u8 f, .int .u8 t, .int .u8 h] w fun e w' => e = .returned (.bool true) ∧ Below w.heap.size w w' := by
  have HRun := Aside0.mk (fun (W : World) (h : Kd.C k47 W A1 l.length l) => by have := Run_any a A1 c1 l W h hc; rw [hR] at this; exact this)
  have HAct := Aside0.mk (fun (W : World) => gasworksref13_Act.calls a.f0 a.f1 a.f2 a.f3 a.f4 a.f5 b W (by rw [Act_f, hab]))
  have HC0 := Aside0.mk (Kd.C_alloc hr (actC a))
  have HB0 := Aside0.mk (below_alloc (Below.refl w.heap.size w) (actC a))
  have BP0 := Aside0.mk (blk_new w (actC a))
  have s0 := cell_two BP0.out 0 rfl
  have s1 := cell_two BP0.out 1 rfl
  have s2 := cell_two BP0.out 2 rfl
  have s3 := cell_two BP0.out 3 rfl
  have s4 := cell_two BP0.out 4 rfl
  have s5 := cell_two BP0.out 5 rfl
  have hlen : decide ((l.length : Int) > 24) = false := decide_eq_false (by omega)
  have hne : (er != 0) = true := bne_iff_ne.2 he
  clear hr hR hab he
  cases b
  all_goals
    simp only [Bool.not_true, Bool.not_false] at h1
    go_enter Try.func6, Try.ntmps6
    go_wp2_with (first
      | (go_at_call 15; refine (HRun.out _ HC0.out).mono ?_; rintro e W1 ⟨v0, rfl, hv, hb⟩; obtain ⟨A2, c2, rfl, hc2, hC2⟩ := Kd.R_reads hv; have H1 := Aside0.mk (bl_next' HB0.out hb); have BP1 := Aside0.mk (blk_below BP0.out hb); clear hv hb hC2 hc2; clear s0 s1 s2 s3 s4 s5; have s0 : W1.cell? ⟨w.heap.size, 0, none⟩ = some (.int .i64 a.f0) := cell_two BP1.out 0 rfl; have s1 : W1.cell? ⟨w.heap.size, 1, none⟩ = some (.int .i64 a.f1) := cell_two BP1.out 1 rfl; have s2 : W1.cell? ⟨w.heap.size, 2, none⟩ = some (.int .i64 a.f2) := cell_two BP1.out 2 rfl; have s3 : W1.cell? ⟨w.heap.size, 3, none⟩ = some (.int .i64 a.f3) := cell_two BP1.out 3 rfl; have s4 : W1.cell? ⟨w.heap.size, 4, none⟩ = some (.int .i64 a.f4) := cell_two BP1.out 4 rfl; have s5 : W1.cell? ⟨w.heap.size, 5, none⟩ = some (.int .i64 a.f5) := cell_two BP1.out 5 rfl)
      | (go_at_call 23; refine (HAct.out _).mono ?_; rintro e W2 ⟨rfl, hb⟩; have H2 := Aside0.mk (bl_next' H1.out hb); clear hb)
      | (go_at_call 14; refine (alive_any _).mono ?_; rintro e W3 ⟨rfl, hb⟩; have HB3 := Aside0.mk (bl_next' H2.out hb); clear hb))
    go_ret
    exact ⟨rfl, HB3.out⟩
/-! ### The law -/
theorem col_bound (g : S45 → Int) (R : List S45) (B : Int) (h : ∀ k, k < R.length → 0 ≤ g (rd_T45 R k) ∧ g (rd_T45 R k) ≤ B) : ∀ k : Nat, k ≤ R.length → 0 ≤ colP g R k ∧ colP g R k ≤ (k : Int) * B
  | 0, _ => by simp [colP, sumI]
  | k + 1, hk => by
    have ih := col_bound g R B h k (by omega)
    have h1 := h k (by omega)
    rw [colP_succ g R k (by omega)]
    have e : ((k + 1 : Nat) : Int) * B = (k : Int) * B + B := by rw [show ((k + 1 : Nat) : Int) = (k : Int) + 1 by omega, Int.add_mul, Int.one_mul]
    omega
theorem colY_bound (g : S47 → Int) (l : List S47) (B : Int) (h : ∀ k, k < l.length → -B ≤ g (rd_T47 l k) ∧ g (rd_T47 l k) ≤ B) : ∀ k : Nat, k ≤ l.length → -((k : Int) * B) ≤ colY g l k ∧ colY g l k ≤ (k : Int) * B
  | 0, _ => by simp [colY, sumI]
  | k + 1, hk => by
    have ih := colY_bound g l B h k (by omega)
    have h1 := h k (by omega)
    rw [colY_succ g l k (by omega)]
    have e : ((k + 1 : Nat) : Int) * B = (k : Int) * B + B := by rw [show ((k + 1 : Nat) : Int) = (k : Int) + 1 by omega, Int.add_mul, Int.one_mul]
    omega
theorem run_len' (a : S23) (l : List S47) : (runP a 0 [] l).length = l.length := runP_len a 0 [] l
theorem whole_walk (a : S23) (A1 : Option Addr) (c1 : Nat) (l : List S47) (f t h : Int) (w : World) (hr : Kd.C k47 w A1 l.length l) (hc : l.length ≤ c1) (hf : 0 ≤ f ∧ f ≤ 255) (ht : 0 ≤ t ∧ t ≤ 255) (hh : 0 ≤ h ∧ h ≤ 255) :
    Calls Try.prog 6 #[actV a, .slice A1 l.length c1, .int .u8 f, .int .u8 t, .int .u8 h] w fun e w' => e = .returned (.bool true) ∧ Below w.heap.size w w' := by
  by_cases h24 : 24 < l.length
  · exact whole_big a A1 c1 l f t h w h24 (Kd.C_max hr)
  by_cases he : errY a l = 0
  · obtain ⟨ha, h16, hl⟩ := err_fine he
    have hRl := run_len' a l
    have hck : ∀ p, checkS a l p = checkL 0 (runP a 0 [] l) p := fun p => by unfold checkS; rw [if_pos he]
    have hF := fun k hk => run_facts a l ha hl k hk
    have hyb : ∀ k, k < l.length → -1099511627776 ≤ (rd_T47 l k).f2 ∧ (rd_T47 l k).f2 ≤ 1099511627776 := fun k hk => by
      have hy : badY (rd_T47 l k) = false := by
        rw [rd_T47_eq l k hk]
        have := List.any_eq_false.1 hl (l[k]'hk) (List.getElem_mem _)
        simpa using this
      obtain ⟨y0, y1, y2, y3, y4, y5⟩ := year_of hy
      omega
    obtain ⟨_, _, _, _, _, _, _, _, a4, a4', _, _⟩ := act_of ha
    refine whole_main a A1 c1 l (runP a 0 [] l) f t h w hr hc ?_ ha h16 hRl (hc1b := ?_) (hc1m := ?_) (hgd := ?_) (harr := ?_) (hset := ?_) (htake := ?_) (hmore := ?_) hf ht hh ?_ ?_
    · unfold runS; rw [if_pos he]
    · intro j hj
      have := col_bound (·.f1) (runP a 0 [] l) 1099511627776 (fun k hk => (hF k (by omega)).due) j (by omega)
      omega
    · intro i j hij hj
      exact colP_mono (·.f1) (runP a 0 [] l) (fun k hk => (hF k (by omega)).due.1) hij (by omega)
    · intro i k hik hk
      exact given_due a l ha hl i k hik hk
    · intro k hk
      have f := hF k hk
      obtain ⟨e1, e2, e3, e4⟩ := end_keeps a l ha hl (k + 1) (by omega)
      have hsb := sumI_bounds 1099511627776 _ e1
      have hln : ((endP a 0 [] (l.take (k + 1))).2.length : Int) * 1099511627776 ≤ 5 * 1099511627776 := by omega
      rw [f.arr.1]
      omega
    · intro k q hk hq
      rw [hck, checkL_set _ 0 k q (by omega) (by rw [← rd45_eq _ _ (by omega)]; exact hq)]
      simp
    · intro k hk
      rw [hck, checkL_take _ 0 k (by omega)]
      simp
    · rw [hck, checkL_more, hRl]
      simp
    · rw [hck, checkL_self]
      simp
    · intro k hk
      have f := hF k hk
      have hy := hyb k hk
      obtain ⟨e1, e2, e3, e4⟩ := end_keeps a l ha hl k (by omega)
      obtain ⟨g1, g2, g3, g4⟩ := end_keeps a l ha hl (k + 1) (by omega)
      have hsb := sumI_bounds 1099511627776 _ e1
      have hS := whole_sum a l ha hl (k + 1) (by omega)
      have hS0 := whole_sum a l ha hl k (by omega)
      rw [colY_succ _ l k (by omega), colP_succ _ _ k (by omega), colP_succ _ _ k (by omega)] at hS
      have bY := colY_bound (·.f2) l 1099511627776 hyb k (by omega)
      have b2 := col_bound (·.f2) (runP a 0 [] l) 6597069766656 (fun j hj => by
        have fj := hF j (by omega)
        obtain ⟨e1, e2, e3, e4⟩ := end_keeps a l ha hl j (by omega)
        have hsb := sumI_bounds 1099511627776 _ e1
        have h1 := fj.paid
        have h2 := fj.due
        omega) k (by omega)
      have b5 := colP_mono (·.f5) (runP a 0 [] l) (fun j hj => (hF j (by omega)).reb) (i := 0) (k := k) (by omega) (by omega)
      have b50 : colP (·.f5) (runP a 0 [] l) 0 = 0 := by simp [colP, sumI]
      have hr1 := f.res.1
      have hcy : 0 ≤ (rd_T47 l k).f1 ∧ (rd_T47 l k).f1 ≤ 1099511627776 := by
        have hy : badY (rd_T47 l k) = false := by
          rw [rd_T47_eq l k hk]
          have := List.any_eq_false.1 hl (l[k]'hk) (List.getElem_mem _)
          simpa using this
        obtain ⟨y0, y1, y2, y3, y4, y5⟩ := year_of hy
        exact ⟨y2, y3⟩
      have hcap : 0 ≤ (rd_T47 l k).f1 * (rd_T45 (runP a 0 [] l) k).f0 ∧ (rd_T47 l k).f1 * (rd_T45 (runP a 0 [] l) k).f0 ≤ 10995116277760000 :=
        ⟨Int.mul_nonneg hcy.1 f.rate.1, Int.le_trans (Int.mul_le_mul hcy.2 f.rate.2 f.rate.1 (by omega)) (by omega)⟩
      exact ⟨by omega, f.res.2, f.arr.2, f.paid.1, f.reb, f.clean, f.full, f.rate, f.due, f.low, f.high, hcap, by omega, by omega, by omega, hy, by omega⟩
  · have hlen : l.length ≤ 24 := by omega
    refine whole_err a A1 c1 l f t h (errY a l) w hr hc hlen he (by unfold runS; rw [if_neg he]) (actB a) rfl ?_
    unfold errY
    cases actB a
    · rfl
    · simp only [if_true]
      split
      · rfl
      · split <;> rfl
theorem u8_of {n : Int} (h : (Lit.int .u8 n).wf = true) : 0 ≤ n ∧ n ≤ 255 := by
  simp only [Lit.wf, Bool.and_eq_true, decide_eq_true_eq] at h
  have h1 : IntKind.min .u8 = 0 := by decide
  have h2 : IntKind.max .u8 = 255 := by decide
  rw [h1, h2] at h
  exact h
theorem whole_row (a : S23) (A1 : Option Addr) (c1 : Nat) (l : List S47) (f t h : Int) (w : World) (hr : Kd.C k47 w A1 l.length l) (hc : l.length ≤ c1) (hf : (Lit.int .u8 f).wf = true) (ht : (Lit.int .u8 t).wf = true) (hh : (Lit.int .u8 h).wf = true) :
    Calls Try.prog 6 #[actV a, .slice A1 l.length c1, .int .u8 f, .int .u8 t, .int .u8 h] w fun e w' => e = .returned (.bool true) ∧ Below w.heap.size w w' :=
  whole_walk a A1 c1 l f t h w hr hc (u8_of hf) (u8_of ht) (u8_of hh)
end Go.Proofs.Ytnammdkpejocmaa.Print
