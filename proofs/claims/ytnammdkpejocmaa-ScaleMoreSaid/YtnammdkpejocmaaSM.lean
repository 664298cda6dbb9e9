/- Needed: the profit that a year needs. -/
import Derived.Test.YtnammdkpejocmaaSL
namespace Go.Proofs.Ytnammdkpejocmaa.Print
open Go.RowKit Go.Shelf Go.Proofs.YtnammdkpejocmaaW.PrintWords Go.Proofs.YtnammdkpejocmaaW.PrintLast Go.Proofs.YtnammdkpejocmaaW.PrintMore
set_option linter.unusedVariables false
set_option linter.unusedSimpArgs false
attribute [local go_sem] Oper.semAt_some

set_option maxHeartbeats 2000000 in
theorem needed_err (a : S23) (A : Option Addr) (c : Nat) (l : List S47) (k : Int) (w : World) (hr : Kd.C k47 w A l.length l) (hc : l.length ≤ c) (he : errY a l ≠ 0) :
    Calls Try.prog 19 #[actV a, .slice A l.length c, .int .i64 k] w (CheckPost (0, errY a l) w) := by
  have HR := Aside0.mk hr
  obtain ⟨er, her⟩ : ∃ er, er = errY a l := ⟨_, rfl⟩
  rw [← her] at he ⊢
  have HC : Aside0 (∀ W, Kd.C k47 W A l.length l → Calls Try.prog 32 #[actV a, .slice A l.length c] W fun e w' => e = .returned (.int .i64 er) ∧ Below W.heap.size W w') := ⟨fun W h => by rw [her]; exact error_any a A c l W h hc⟩
  have hd : (er != 0) = true := bne_iff_ne.2 he
  have hd2 : (er == 0) = false := beq_eq_false_iff_ne.2 he
  have HB0 := Aside0.mk (below_alloc (Below.refl w.heap.size w) (actC a))
  clear hr her he
  go_enter Try.func19, Try.ntmps19
  go_wp2_with (go_at_call 32; refine (HC.out _ (Kd.C_below HR.out HB0.out)).mono ?_; rintro e W1 ⟨rfl, hb⟩; have H1 := Aside0.mk (bl_next' HB0.out hb); clear hb)
  go_ret2
  exact ⟨rfl, H1.out⟩
set_option maxHeartbeats 2000000 in
theorem needed_range (a : S23) (A : Option Addr) (c : Nat) (l : List S47) (k : Int) (w : World) (hr : Kd.C k47 w A l.length l) (hc : l.length ≤ c) (he : errY a l = 0) (hk : withinB k 0 ((l.length : Int) - 1) = false) :
    Calls Try.prog 19 #[actV a, .slice A l.length c, .int .i64 k] w (CheckPost (0, 2) w) := by
  obtain ⟨ha, h16, hbad⟩ := err_fine he
  have HR := Aside0.mk hr
  have HC : Aside0 (∀ W, Kd.C k47 W A l.length l → Calls Try.prog 32 #[actV a, .slice A l.length c] W fun e w' => e = .returned (.int .i64 0) ∧ Below W.heap.size W w') := ⟨fun W h => by have := error_any a A c l W h hc; rwa [he] at this⟩
  have HB0 := Aside0.mk (below_alloc (Below.refl w.heap.size w) (actC a))
  have hw : wrap64 ((l.length : Int) - 1) = (l.length : Int) - 1 := by unfold wrap64; omega
  clear hr he
  go_enter Try.func19, Try.ntmps19
  go_wp2_with (first
    | (go_at_call 32; refine (HC.out _ (Kd.C_below HR.out HB0.out)).mono ?_; rintro e W1 ⟨rfl, hb⟩; have H1 := Aside0.mk (bl_next' HB0.out hb); clear hb)
    | (go_at_call 26; refine (within_below _ _ _ _).mono ?_; rintro e W2 ⟨rfl, hb⟩; have H2 := Aside0.mk (bl_next' H1.out hb); clear hb))
  go_ret2
  exact ⟨rfl, H2.out⟩
def NeedI (w : World) (_pre : List (Nat × S45)) (W : World) : Prop := Below w.heap.size w W
def needK (a : S23) (l : List S47) (k : Nat) : Int × Int :=
  if dueP a (rd_T47 l k) + sumI (endP a 0 [] (l.take k)).2 = 0 then (0, 4) else (dueP a (rd_T47 l k) + sumI (endP a 0 [] (l.take k)).2 - (endP a 0 [] (l.take k)).1, 0)
theorem take_bad {l : List S47} (k : Nat) (h : l.any badY = false) : (l.take k).any badY = false := by
  rw [List.any_eq_false] at *
  exact fun x hx => h x (List.mem_of_mem_take hx)
theorem bal_cell {B P : Nat} {a : S23} {s : Int × List Int} {W : World} {b : Int} (h : HasY B P a s W) (e : s.1 = b) : W.cell? ⟨P, 6, none⟩ = some (.int .i64 b) := by
  obtain ⟨A, n, c, h⟩ := h
  rw [← e]
  exact (comp_cells h).2.2.2.2.2.2.1
set_option maxHeartbeats 4000000 in
set_option maxRecDepth 100000 in
theorem needed_main (a : S23) (A : Option Addr) (c : Nat) (l : List S47) (k : Nat) (w : World) (hr : Kd.C k47 w A l.length l) (hc : l.length ≤ c) (he : errY a l = 0) (hk : k < l.length) :
    Calls Try.prog 19 #[actV a, .slice A l.length c, .int .i64 (k : Int)] w (CheckPost (needK a l k) w) := by
  obtain ⟨rr, hrr⟩ : ∃ rr, rr = needK a l k := ⟨_, rfl⟩
  rw [← hrr]
  have HRES := Aside0.mk hrr
  clear hrr
  obtain ⟨ha, h16, hbad⟩ := err_fine he
  have HR := Aside0.mk hr
  have HC : Aside0 (∀ W, Kd.C k47 W A l.length l → Calls Try.prog 32 #[actV a, .slice A l.length c] W fun e w' => e = .returned (.int .i64 0) ∧ Below W.heap.size W w') := ⟨fun W h => by have := error_any a A c l W h hc; rwa [he] at this⟩
  have HB0 := Aside0.mk (below_alloc (Below.refl w.heap.size w) (actC a))
  have BA := Aside0.mk (blk_new w (actC a))
  have hw : wrap64 ((l.length : Int) - 1) = (l.length : Int) - 1 := by unfold wrap64; omega
  have hwi : withinB (k : Int) 0 ((l.length : Int) - 1) = true := by unfold withinB; exact decide_eq_true (by omega)
  have HWI := Aside0.mk hwi
  clear hr he hwi
  refine (callsIn_wide (n := 8)).1 ?_
  refine callsIn_of_wp_marks Try.func19 rfl trivial ?_ rfl
  simp only [Try.ntmps19, List.size_toArray, List.length_cons, List.length_nil, Nat.reduceAdd, Nat.reduceSub, Array.replicate_succ, Array.replicate_zero, List.push_toArray, List.append_toArray, List.nil_append, List.cons_append]
  gi_wp2_with (first
    | (refine ⟨trivial, ?_⟩; gi_at_call 32; refine (callsIn_wide.2 (HC.out _ (Kd.C_below HR.out HB0.out))).mono ?_; rintro e W1 ⟨rfl, hb⟩; have H1 := Aside0.mk (bl_next' HB0.out hb); have BA1 := Aside0.mk (blk_below BA.out hb); clear hb)
    | (refine ⟨trivial, ?_⟩; gi_at_call 26; refine (callsIn_wide.2 (within_below _ _ _ _)).mono ?_; rintro e W2 ⟨rfl, hb⟩; have H2 := Aside0.mk (bl_next' H1.out hb); have BA2 := Aside0.mk (blk_below BA1.out hb); have hwi := HWI.out; have a0 : W2.cell? ⟨w.heap.size, 0, none⟩ = some (.int .i64 a.f0) := cell_two BA2.out 0 rfl; have a1 : W2.cell? ⟨w.heap.size, 1, none⟩ = some (.int .i64 a.f1) := cell_two BA2.out 1 rfl; have a2 : W2.cell? ⟨w.heap.size, 2, none⟩ = some (.int .i64 a.f2) := cell_two BA2.out 2 rfl; have a3 : W2.cell? ⟨w.heap.size, 3, none⟩ = some (.int .i64 a.f3) := cell_two BA2.out 3 rfl; have a4 : W2.cell? ⟨w.heap.size, 4, none⟩ = some (.int .i64 a.f4) := cell_two BA2.out 4 rfl; have a5 : W2.cell? ⟨w.heap.size, 5, none⟩ = some (.int .i64 a.f5) := cell_two BA2.out 5 rfl; clear hb)
    | (refine ⟨trivial, ?_⟩; gi_at_call 33; refine (callsIn_wide.2 (years_any _ _ _ _ _)).mono ?_; rintro e W3 ⟨rfl, rfl⟩))
  have hT : (l.take k).length = k := by rw [List.length_take]; omega
  have HST : Aside0 (Started w (((W2.alloc (compC a)).alloc (.cells #[.pointer (some ⟨W2.heap.size, 0, none⟩)] 64)).alloc (.cells #[.slice A k c] 29)) W2.heap.size (W2.heap.size + 1) (W2.heap.size + 1 + 1) a A (l.take k).length c) := ⟨by rw [hT]; exact started H2.out a A k c⟩
  have HRT : Aside0 (Kd.C k47 w A (l.take k).length (l.take k)) := ⟨Kd.C_take HR.out (by omega)⟩
  clear BA BA1 BA2 HB0 H1 a0 a1 a2 a3 a4 a5
  generalize ((W2.alloc (.cells #[.int .i64 a.f0, .int .i64 a.f1, .int .i64 a.f2, .int .i64 a.f3, .int .i64 a.f4, .int .i64 a.f5, .int .i64 0, .slice none 0 0] 67)).alloc (.cells #[.pointer (some ⟨W2.heap.size, 0, none⟩)] 64)).alloc (.cells #[.slice A k c] 29) = V at HST ⊢
  obtain ⟨P, hP⟩ : ∃ P, P = W2.heap.size := ⟨_, rfl⟩
  rw [← hP] at HST ⊢
  have hge := HST.out.ge
  clear hP H2
  have hVs := HST.out.bel.size
  refine range_st rfl (by omega) (gf := 43) (lb := #[.pointer (some ⟨P + 1, 0, none⟩), .pointer (some ⟨P + 1 + 1, 0, none⟩)]) rfl trivial (enters_of Try.func43 (by kernel_rfl) rfl) (encs := encY) (Kp := KpB w.heap.size) (Ef := EfP P) (Pre := preY a (l.take k)) (S := fun xs W' => xs = fullL a (l.take k) ∧ HasY w.heap.size P a (endP a 0 [] (l.take k)) W') (Sp := fun _ => True)
    (fun W hg => started_seq HST.out hg ha (take_bad k hbad) (by omega) HRT.out (by omega)) ef_keeps (fun h k => h.trans k) (kp_put hVs) (fun _ => rfl)
    (NeedI w) (fun _ _ _ => False) (ownFrom_below (Nat.le_refl _) hVs) (fun _ _ _ _ _ hs _ _ => hs) (fun s A B h he => Below.grown (show Below w.heap.size w A from h) he.1 (show Below w.heap.size w A from h).size (fun k e => by injection e with e; omega)) (fun _ _ _ _ h _ => h) (OwnFrom.and (fun _ _ _ _ hs _ _ => hs) (has_own _ _ _ _ _)) HST.out.bel
    (fun _ _ _ => True) (fun _ _ _ _ _ _ _ _ => trivial) ?assign ?body ?done ?stop
  case assign =>
    intro lp pre x W K hi hK
    gi_wp2
    exact hK _ _ (KeepsOthers.refl _) ⟨Below.refl _ _, fun _ _ _ h _ _ => h⟩ hi trivial
  case body =>
    rintro lp pre x a' W hi _ ⟨j, hj, rfl, rfl⟩
    gi_wp2
    exact ⟨KeepsOthers.refl _, ⟨Below.refl _ _, fun _ _ _ h _ _ => h⟩, hi⟩
  case done =>
    rintro D xs W hD ⟨rfl, A3, n3, c3, hS⟩ hi hK
    have HB := Aside0.mk (show Below w.heap.size w W from hi)
    have HS := Aside0.mk hS
    have HKd := Aside0.mk hK
    obtain ⟨ad, e, g0, g1, g2⟩ := at_T47 (Kd.C_below HR.out HB.out) k (by omega) (by omega)
    cases e
    simp only [Int.toNat_natCast] at g0 g1 g2
    obtain ⟨e1, e2, e3, e4⟩ := end_keeps a l ha hbad k (by omega)
    have hy : badY (rd_T47 l k) = false := by
      rw [rd_T47_eq l k hk]
      have := List.any_eq_false.1 hbad (l[k]'hk) (List.getElem_mem _)
      simpa using this
    have k0 : (0 : Int) ≤ (k : Int) := Int.natCast_nonneg k
    have k1 : (k : Int) < (l.length : Int) := by omega
    have hres := HRES.out
    unfold needK at hres
    obtain ⟨y0, y1, y2, y3, y4, y5⟩ := year_of hy
    obtain ⟨_, _, d2, d3⟩ := due_bounds (a := a) y2 y3
    have hsb := sumI_bounds 1099511627776 _ e1
    have hln : ((endP a 0 [] (l.take k)).2.length : Int) * 1099511627776 ≤ 5 * 1099511627776 := by omega
    have HDU : Aside0 (∀ W, HasY w.heap.size P a (endP a 0 [] (l.take k)) W → Calls Try.prog 36 #[.pointer (some ⟨P, 0, none⟩), yearV (rd_T47 l k)] W fun e w' => e = .returned (.int .i64 (dueP a (rd_T47 l k))) ∧ Below W.heap.size W w') := ⟨fun W h => by obtain ⟨A', n', c', h⟩ := h; exact due_any _ W P a _ A' n' c' _ (rd_T47 l k) h ha hy⟩
    have HOW : Aside0 (∀ W, HasY w.heap.size P a (endP a 0 [] (l.take k)) W → Calls Try.prog 37 #[.pointer (some ⟨P, 0, none⟩)] W fun e w' => e = .returned (.int .i64 (sumI (endP a 0 [] (l.take k)).2)) ∧ W = w') := ⟨fun W h => by obtain ⟨A', n', c', h⟩ := h; exact owed_any _ W P a _ A' n' c' _ h (by have := h.len; omega) e1⟩
    generalize dueP a (rd_T47 l k) = du at hres d2 d3 HDU
    generalize hsm : sumI (endP a 0 [] (l.take k)).2 = sm at hres hsb HOW
    generalize hbl : (endP a 0 [] (l.take k)).1 = bal at hres e3 e4 HS
    have w1 : wrap64 (du + sm) = du + sm := by unfold wrap64; omega
    have w2 : wrap64 (du + sm - bal) = du + sm - bal := by unfold wrap64; omega
    have HS2 : Aside0 (HasY w.heap.size P a (endP a 0 [] (l.take k)) W) := ⟨_, _, _, hS⟩
    have HBL := Aside0.mk hbl
    clear e1 e2 hS hi hK hsm hbl hsb hln
    by_cases hz : du + sm = 0
    · rw [if_pos hz] at hres
      have hz1 : (du + sm == 0) = true := by rw [hz]; rfl
      have HRS := Aside0.mk hres
      clear hres hz
      gi_wp2_with (first
        | (refine ⟨trivial, ?_⟩; gi_at_call 36; refine (callsIn_wide.2 (HDU.out _ HS2.out)).mono ?_; rintro e W4 ⟨rfl, hb⟩; have HS4 : Aside0 (HasY w.heap.size P a (endP a 0 [] (l.take k)) W4) := ⟨_, _, _, (HS2.out.choose_spec.choose_spec.choose_spec).below hb⟩; have HB4 := Aside0.mk (bl_next' HB.out hb); have HK4 := Aside0.mk (blk_below HKd.out hb); clear hb)
        | (refine ⟨trivial, ?_⟩; gi_at_call 37; refine (callsIn_wide.2 (HOW.out _ HS4.out)).mono ?_; rintro e W5 ⟨rfl, rfl⟩))
      refine ⟨by simp, .inl ⟨_, _, rfl, run_takeDeferred HK4.out, ?_⟩⟩
      refine ⟨.tuple #[.int .i64 0, .int .i64 4], by simp [results, Try.f19, go_sem], by rw [HRS.out], ?_⟩
      exact HB4.out.trans (belowK_b (w := w) (Nat.le_refl _) _ D _ _ (by omega) HK4.out rfl rfl)
    · rw [if_neg hz] at hres
      have hz1 : (du + sm == 0) = false := beq_eq_false_iff_ne.2 hz
      have HRS := Aside0.mk hres
      clear hres hz
      gi_wp2_with (first
        | (refine ⟨trivial, ?_⟩; gi_at_call 36; refine (callsIn_wide.2 (HDU.out _ HS2.out)).mono ?_; rintro e W4 ⟨rfl, hb⟩; have HS4 : Aside0 (HasY w.heap.size P a (endP a 0 [] (l.take k)) W4) := ⟨_, _, _, (HS2.out.choose_spec.choose_spec.choose_spec).below hb⟩; have HB4 := Aside0.mk (bl_next' HB.out hb); have HK4 := Aside0.mk (blk_below HKd.out hb); have c6 := bal_cell HS4.out HBL.out; clear hb)
        | (refine ⟨trivial, ?_⟩; gi_at_call 37; refine (callsIn_wide.2 (HOW.out _ HS4.out)).mono ?_; rintro e W5 ⟨rfl, rfl⟩))
      refine ⟨by simp, .inl ⟨_, _, rfl, run_takeDeferred HK4.out, ?_⟩⟩
      refine ⟨.tuple #[.int .i64 (du + sm - bal), .int .i64 0], by simp [results, Try.f19, go_sem]; exact w2, by rw [HRS.out], ?_⟩
      exact HB4.out.trans (belowK_b (w := w) (Nat.le_refl _) _ D _ _ (by omega) HK4.out rfl rfl)
  case stop =>
    rintro D cd pre W hD _ h _
    exact h.elim
def neededS (a : S23) (l : List S47) (k : Int) : Int × Int := if errY a l = 0 then (if withinB k 0 ((l.length : Int) - 1) = true then needK a l k.toNat else (0, 2)) else (0, errY a l)
theorem Needed_any (a : S23) (A : Option Addr) (c : Nat) (l : List S47) (k : Int) (w : World) (hr : Kd.C k47 w A l.length l) (hc : l.length ≤ c) :
    Calls Try.prog 19 #[actV a, .slice A l.length c, .int .i64 k] w (CheckPost (neededS a l k) w) := by
  unfold neededS
  by_cases he : errY a l = 0
  · rw [if_pos he]
    by_cases hk : withinB k 0 ((l.length : Int) - 1) = true
    · rw [if_pos hk]
      simp only [withinB, decide_eq_true_eq] at hk
      obtain ⟨n, rfl⟩ := Int.eq_ofNat_of_zero_le hk.1
      exact needed_main a A c l n w hr hc he (by omega)
    · rw [if_neg hk]
      exact needed_range a A c l k w hr hc he (by simpa using hk)
  · rw [if_neg he]
    exact needed_err a A c l k w hr hc he
end Go.Proofs.Ytnammdkpejocmaa.Print
