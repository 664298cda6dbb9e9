/- The law PipeMore, walked. -/
import Derived.Test.YtbjinkkmakhbaaaMH
import Derived.Test.YtbjinkkmakhbaaaPN
namespace Go.Proofs.Ytbjinkkmakhbaaa.Print
open Go.RowKit Go.Shelf Go.Proofs.YtbjinkkmakhbaaaW.PrintWords Go.Proofs.YtbjinkkmakhbaaaW.PrintLast Go.Proofs.YtbjinkkmakhbaaaW.PrintMore
set_option linter.unusedVariables false
set_option linter.unusedSimpArgs false
attribute [local go_sem] Oper.semAt_some
def mn (x y : Int) : Int := if y < x then y else x
theorem mn_min (x y : Int) : mn x y = min x y := by unfold mn; split <;> omega
theorem min2_mn (k k' : IntKind) (x y : Int) : Builtin.min2 (.int k x) (.int k' y) = pure (.int k (mn x y)) := min2_int k k' x y
attribute [local go_sem] min2_mn min_two
theorem pow_named9 {q : Nat} (hq : q < 9) : ∃ p : Nat, p ≤ 256 ∧ wrap64 ((2 : Int) ^ q) = (p : Int) := by
  have h1 : 2 ^ q ≤ 256 := Nat.le_trans (Nat.pow_le_pow_right (by decide) (by omega : q ≤ 8)) (by decide)
  have e : (2 : Int) ^ q = ((2 ^ q : Nat) : Int) := by simp
  rw [e]
  generalize 2 ^ q = p at h1
  exact ⟨p, h1, w64 (by omega) (by omega)⟩
theorem rem_nat {o : Int} {N : Nat} (h0 : 0 ≤ o) (hN : 0 < N) : ∃ z : Nat, Int.tmod o (N : Int) = (z : Int) ∧ z < N := by
  obtain ⟨m, rfl⟩ := Int.eq_ofNat_of_zero_le h0
  refine ⟨m % N, ?_, Nat.mod_lt _ hN⟩
  rw [Int.tmod_eq_emod_of_nonneg (by omega)]
  rfl
theorem rem_seven {b : Int} (h0 : 0 ≤ b) : ∃ r : Int, Int.tmod b 7 = r ∧ 0 ≤ r ∧ r ≤ 6 := by
  refine ⟨_, rfl, ?_⟩
  rw [Int.tmod_eq_emod_of_nonneg h0]
  omega
set_option maxHeartbeats 16000000 in
set_option maxRecDepth 100000 in
theorem more_walk (lo hi : Int) (A : Option Addr) (c : Nat) (js : List S50) (A' : Option Addr) (c' : Nat) (ms : List S54) (q o b : Int) (w : World) (hr : Kd.C k50 w A js.length js) (hc : js.length ≤ c) (hr' : Kd.C k54 w A' ms.length ms) (hc' : ms.length ≤ c') (hqw : (Lit.int .i64 q).wf = true) (how : (Lit.int .u8 o).wf = true) (hbw : (Lit.int .u8 b).wf = true) :
    Calls Try.prog 7 #[.agg #[.int .i64 lo, .int .i64 hi, .slice A js.length c, .slice A' ms.length c'], .int .i64 q, .int .u8 o, .int .u8 b] w fun e w' => e = .returned (.bool true) ∧ Below w.heap.size w w' := by
  have ho : 0 ≤ o ∧ o ≤ 255 := by
    have h2 : (decide ((0 : Int) ≤ o) && decide (o ≤ (255 : Int))) = true := how
    rw [Bool.and_eq_true, decide_eq_true_eq, decide_eq_true_eq] at h2
    exact h2
  have hb0 : 0 ≤ b ∧ b ≤ 255 := by
    have h2 : (decide ((0 : Int) ≤ b) && decide (b ≤ (255 : Int))) = true := hbw
    rw [Bool.and_eq_true, decide_eq_true_eq, decide_eq_true_eq] at h2
    exact h2
  clear how hbw hqw
  have H0 : Aside0 (NetAt w (w.alloc (.cells (netC lo hi A js.length c A' ms.length c') 27)) w.heap.size lo hi A c js A' c' ms) := ⟨⟨blk_new w _, Kd.C_alloc hr _, Kd.C_alloc hr' _, below_alloc (Below.refl _ _) _⟩⟩
  have s0 := cell_two H0.out.blk 0 rfl
  have s1 := cell_two H0.out.blk 1 rfl
  have s2 := cell_two H0.out.blk 2 rfl
  have s3 := cell_two H0.out.blk 3 rfl
  have HLg : Aside0 (∀ W, NetAt w W w.heap.size lo hi A c js A' c' ms → Calls Try.prog 10 #[.agg #[.int .i64 lo, .int .i64 hi, .slice A js.length c, .slice A' ms.length c'], .int .i64 8] W fun e w' => e = .returned (.bool (largeB js ms 8)) ∧ Below W.heap.size W w') := ⟨fun W h => large_any lo hi A c js A' c' ms 8 W h.jr hc h.mr hc'⟩
  have HPr : Aside0 (∀ W, NetAt w W w.heap.size lo hi A c js A' c' ms → Calls Try.prog 14 #[.agg #[.int .i64 lo, .int .i64 hi, .slice A js.length c, .slice A' ms.length c'], .int .i64 q] W fun e w' => e = .returned (.tuple #[.agg #[.int .i64 (pressS lo hi js ms q).1, .int .i64 (pressS lo hi js ms q).2.1], .int .i64 (pressS lo hi js ms q).2.2]) ∧ Below W.heap.size W w') := ⟨fun W h => Press_any lo hi A c js A' c' ms q W h.jr hc h.mr hc'⟩
  have HNb : Aside0 (∀ W, NetAt w W w.heap.size lo hi A c js A' c' ms → NetOk lo hi js ms → Calls Try.prog 23 #[.agg #[.int .i64 lo, .int .i64 hi, .slice A js.length c, .slice A' ms.length c']] W fun e w' => e = .returned (.bool true) ∧ Below W.heap.size W w') := ⟨fun W h hok => by
    have := rNetwork_any lo hi A c js A' c' ms W h.jr hc h.mr hc' (by have := hok.jl; omega) (by have := hok.jl; have := hok.ml; omega)
    rwa [netB_of_ok hok] at this⟩
  have HRR := Aside0.mk (And.intro hr hr')
  clear hr hr'
  by_cases hlg : largeB js ms 8 = true
  · rw [hlg] at HLg
    clear hlg
    go_enter Try.func7, Try.ntmps7
    go_wp2_with (first
      | (go_at_call 10; (with_reducible refine (HLg.out _ H0.out).mono ?_); rintro e W1 ⟨rfl, hb⟩; have H1 := Aside0.mk (H0.out.next hb); clear hb s0 s1 s2 s3)
      | (go_at_call 11; (with_reducible refine (awake_any _).mono ?_); rintro e W2 ⟨rfl, hb⟩; have HB2 := Aside0.mk (bl_next' H1.out.bel hb); clear hb))
    go_ret
    exact ⟨rfl, HB2.out⟩
  · have hlf : largeB js ms 8 = false := by simpa using hlg
    rw [hlf] at HLg
    clear hlg hlf
    rcases press_case lo hi js ms q with ⟨er, hp, he⟩ | ⟨j, rfl, hok, hj, hst, hp⟩
    · rw [hp] at HPr
      have de : (er != 0) = true := by rcases he with rfl | rfl | rfl <;> rfl
      clear hp he
      go_enter Try.func7, Try.ntmps7
      go_wp2_with (first
        | (go_at_call 10; (with_reducible refine (HLg.out _ H0.out).mono ?_); rintro e W1 ⟨rfl, hb⟩; have H1 := Aside0.mk (H0.out.next hb); clear hb s0 s1 s2 s3; have s0 := cell_two H1.out.blk 0 rfl; have s1 := cell_two H1.out.blk 1 rfl; have s2 := cell_two H1.out.blk 2 rfl; have s3 := cell_two H1.out.blk 3 rfl)
        | (go_at_call 14; (with_reducible refine (HPr.out _ H1.out).mono ?_); rintro e W2 ⟨rfl, hb⟩; have H2 := Aside0.mk (H1.out.next hb); clear hb s0 s1 s2 s3; have H3 : Aside0 (EnAt0 w (W2.alloc (.cells #[.int .i64 0, .int .i64 0] 23)) lo hi A c js A' c' ms W2.heap.size 0 0) := ⟨⟨H2.out.next (below_alloc (Below.refl _ _) _), blk_new _ _, blk_lt H2.out.blk⟩⟩; have t0 := cell_two H3.out.sp 0 rfl; have t1 := cell_two H3.out.sp 1 rfl)
        | (go_at_call 11; (with_reducible refine (awake_any _).mono ?_); rintro e W4 ⟨rfl, hb⟩; have HB4 := Aside0.mk (bl_next' H3.out.net.bel hb); clear hb))
      go_ret
      exact ⟨rfl, HB4.out⟩
    · rw [hp] at HPr
      have HOK := Aside0.mk hok
      have hl9 : js.length ≤ 9 := hok.jl.2
      have hl8 : ms.length + 1 = js.length := hok.ml
      have hln50 : js.length * 40 ≤ 140737488355328 := by omega
      have hln54 : ms.length * 32 ≤ 140737488355328 := by omega
      have hsrc := hok.src
      have hw0 : wrap64 (lo + b) = lo + b := w64 (by omega) (by omega)
      have hw1 : wrap64 (hi + b) = hi + b := w64 (by omega) (by omega)
      have HSRC := Aside0.mk hsrc
      obtain ⟨jn, hz, hjn⟩ := rem_nat (N := js.length) ho.1 (by omega)
      have hwo : wrap64 o = o := w64 (by omega) (by omega)
      have hwb : wrap64 b = b := w64 (by omega) (by omega)
      have hjl0 : ((js.length : Int) == 0) = false := by rw [beq_eq_false_iff_ne]; omega
      have HMo : Aside0 (∀ ym, MoreM ms ym → ∃ L H, pressS lo hi (js.set jn (moreJ b (rd_T50 js jn))) ym j = (L, H, 0) ∧ L ≤ loP js ms lo j ∧ H ≤ hiP js ms hi j) := ⟨fun ym hm => more_case hok hb0.1 hjn hm hj hst⟩
      have hhi := high_case (b := b) hok hb0.1 hj hst
      rw [← mn_min, ← mn_min] at hhi
      have HHi := Aside0.mk hhi
      have HTw : Aside0 (∀ s, ∃ L H, pressS lo hi js (withN s 0 ms) j = (L, H, 0) ∧ loP js ms lo j ≤ L ∧ hiP js ms hi j ≤ H) := ⟨fun s => two_case hok s hj hst⟩
      have HCu : Aside0 (∀ yj, CutTo b ms js yj js.length → pressS lo hi yj ms j = (loP js ms lo j, hiP js ms hi j, 0)) := ⟨fun yj h => cut_case hok hb0 h hj hst⟩
      clear hp hok hst hsrc hhi
      revert HMo HHi HTw HCu
      generalize loP js ms lo j = pl at HPr ⊢
      generalize hiP js ms hi j = ph at HPr ⊢
      intro HMo HHi HTw HCu
      go_enter Try.func7, Try.ntmps7
      go_wp2_with (first
        | (go_at_call 10; (with_reducible refine (HLg.out _ H0.out).mono ?_); rintro e W1 ⟨rfl, hb⟩; have H1 := Aside0.mk (H0.out.next hb); clear hb s0 s1 s2 s3; have s0 := cell_two H1.out.blk 0 rfl; have s1 := cell_two H1.out.blk 1 rfl; have s2 := cell_two H1.out.blk 2 rfl; have s3 := cell_two H1.out.blk 3 rfl)
        | (go_at_call 14; (with_reducible refine (HPr.out _ H1.out).mono ?_); rintro e W2 ⟨rfl, hb⟩; have H2 := Aside0.mk (H1.out.next hb); clear hb s0 s1 s2 s3; have H3 : Aside0 (EnAt0 w (W2.alloc (.cells #[.int .i64 pl, .int .i64 ph] 23)) lo hi A c js A' c' ms W2.heap.size pl ph) := ⟨⟨H2.out.next (below_alloc (Below.refl _ _) _), blk_new _ _, blk_lt H2.out.blk⟩⟩; have t0 := cell_two H3.out.sp 0 rfl; have t1 := cell_two H3.out.sp 1 rfl; have s0 := cell_two H3.out.net.blk 0 rfl; have s1 := cell_two H3.out.net.blk 1 rfl; have s2 := cell_two H3.out.net.blk 2 rfl; have s3 := cell_two H3.out.net.blk 3 rfl)
        | (go_at_call 23; (with_reducible refine (HNb.out _ H3.out.net HOK.out).mono ?_); rintro e W3 ⟨rfl, hb⟩; have H4 := Aside0.mk (H3.out.next hb); clear hb s0 s1 s2 s3 t0 t1))
      clear H0 H1 H2 H3
      generalize W2.heap.size = SB at H4 ⊢
      refine start_ (n := 6) (S := fun w' => w'.cell? ⟨w.heap.size, 0, none⟩ = some (.int .i64 lo) ∧ w'.cell? ⟨w.heap.size, 1, none⟩ = some (.int .i64 hi) ∧ w'.cell? ⟨w.heap.size, 2, none⟩ = some (.slice A js.length c) ∧ w'.cell? ⟨w.heap.size, 3, none⟩ = some (.slice A' ms.length c')) (ds := [5]) (bs_ 6 0) (by kernel_rfl) rfl rfl (⟨cell_two (H4.out).net.blk 0 rfl, cell_two (H4.out).net.blk 1 rfl, cell_two (H4.out).net.blk 2 rfl, cell_two (H4.out).net.blk 3 rfl⟩) (fun hHeld => ?_)
      have HW := Aside0.mk (H4.out.next (Below.drew (Below.refl _ _)))
      clear H4
      generalize W3.drew = W0 at HW hHeld ⊢
      have HB0 : Aside0 (w.heap.size ≤ W0.heap.size) := ⟨HW.out.net.bel.size⟩
      have HBr := Aside0.mk (Below.refl W0.heap.size W0)
      have HS : Aside0 (∀ W', Below W0.heap.size W0 W' → (fun w' => w'.cell? ⟨w.heap.size, 0, none⟩ = some (.int .i64 lo) ∧ w'.cell? ⟨w.heap.size, 1, none⟩ = some (.int .i64 hi) ∧ w'.cell? ⟨w.heap.size, 2, none⟩ = some (.slice A js.length c) ∧ w'.cell? ⟨w.heap.size, 3, none⟩ = some (.slice A' ms.length c')) W') := ⟨fun W' hb => ⟨cell_two (HW.out.next hb).net.blk 0 rfl, cell_two (HW.out.next hb).net.blk 1 rfl, cell_two (HW.out.next hb).net.blk 2 rfl, cell_two (HW.out.next hb).net.blk 3 rfl⟩⟩
      refine take_ (i := 0) (N := some 48) (v := ?_) (a' := ?_) (bs_ 6 1) rfl rfl (by kernel_rfl) (fun _ _ _ h => h) (Or.inl ⟨by rfl, ?_⟩) hHeld ?_ ?_; rotate_left; (· rintro w' ⟨s0, s1, s2, s3⟩; go_simp; with_reducible rfl); rotate_left; (· simp only [Act.put, N1_]; rfl)
      refine take_ (i := 1) (N := some 49) (v := ?_) (a' := ?_) (bs_ 6 3) rfl rfl (by kernel_rfl) (fun _ _ _ h => h) (Or.inl ⟨by rfl, ?_⟩) hHeld ?_ ?_; rotate_left; (· rintro w' ⟨s0, s1, s2, s3⟩; go_simp; with_reducible rfl); rotate_left; (· simp only [Act.put, N1_]; rfl)
      clear hHeld
      refine join_ (σ := (Nat) × (Nat)) 2 (bs_ 6 15) (fun s => [(11, .pointer (some ⟨s.1, 0, none⟩)), (12, .pointer (some ⟨s.2, 0, none⟩))]) (fun s w' => (w'.heap[s.1]? = some (.cells #[.int .i64 0, .int .i64 0, .slice none 0 0, .slice none 0 0] 27 (0, 0)) ∧ W0.heap.size ≤ s.1) ∧ (w'.heap[s.2]? = some (.cells #[.int .i64 0, .int .i64 0, .slice none 0 0, .slice none 0 0] 27 (0, 0)) ∧ W0.heap.size ≤ s.2) ∧ s.2 ≠ s.1 ∧ Below W0.heap.size W0 w') ?_ ?_
      rotate_left
      · intro hCont
        refine two_ (i := 2) (j := 3) (Ni := some 11) (Nj := some 12) (bs_ 6 7) (bs_ 6 11) rfl rfl rfl rfl (by kernel_rfl) (by decide) (by decide) (fun K hK => ?_) (fun K hK => ?_)
        · skip
          refine event_step (v := .pointer (some ⟨W0.heap.size, 0, none⟩)) (w1 := (W0.alloc (.cells #[.int .i64 0, .int .i64 0, .slice none 0 0, .slice none 0 0] 27))) (by rfl) (by first | (go_simp; done) | (go_simp; rfl)) ?_
          have HR2_1 := Aside0.mk (And.intro (blk_new W0 (.cells #[.int .i64 0, .int .i64 0, .slice none 0 0, .slice none 0 0] 27)) (HBr.out.size))
          have hb := below_alloc (Below.refl W0.heap.size W0) (.cells #[.int .i64 0, .int .i64 0, .slice none 0 0, .slice none 0 0] 27)
          generalize (W0.alloc (.cells #[.int .i64 0, .int .i64 0, .slice none 0 0, .slice none 0 0] 27)) = V1 at HR2_1 hb ⊢
          have HB1 := Aside0.mk (bl_next' HBr.out hb)
          have hSn := HS.out _ HB1.out
          clear hb
          refine hK.out _ _ hSn (fun hHeld => ?_)
          clear hK K hSn hHeld
          refine norm_ (a' := ?_) ?_ ?_; rotate_left; (· show Act.put _ (some 11) _ = _; simp only [Act.put, N1_]; rfl)
          refine one_ (i := 3) (N := some 12) (bs_ 6 15) rfl rfl (by kernel_rfl) (by decide) (fun K hK => ?_)
          have HNE := Aside0.mk (Nat.ne_of_gt (blk_lt HR2_1.out.1))
          refine event_step (v := .pointer (some ⟨V1.heap.size, 0, none⟩)) (w1 := (V1.alloc (.cells #[.int .i64 0, .int .i64 0, .slice none 0 0, .slice none 0 0] 27))) (by rfl) (by first | (go_simp; done) | (go_simp; rfl)) ?_
          have HR3_2 := Aside0.mk (And.intro (blk_new V1 (.cells #[.int .i64 0, .int .i64 0, .slice none 0 0, .slice none 0 0] 27)) (HB1.out.size))
          have hb := below_alloc (Below.refl V1.heap.size V1) (.cells #[.int .i64 0, .int .i64 0, .slice none 0 0, .slice none 0 0] 27)
          generalize (V1.alloc (.cells #[.int .i64 0, .int .i64 0, .slice none 0 0, .slice none 0 0] 27)) = V2 at HR3_2 hb ⊢
          have HB2 := Aside0.mk (bl_next' HB1.out hb)
          have HR2_2 := Aside0.mk (And.intro (blk_below HR2_1.out.1 hb) HR2_1.out.2)
          have hSn := HS.out _ HB2.out
          clear hb
          refine hK.out _ _ hSn (fun hHeld => ?_)
          clear hK K hSn hHeld
          refine norm_ (a' := ?_) ?_ ?_; rotate_left; (· show Act.put _ (some 12) _ = _; simp only [Act.put, N1_]; rfl)
          exact norm_ (by first | (simp only [putAll, Act.put, List.setIfInBounds_toArray, List.set_cons_zero, List.set_cons_succ]; done) | (simp only [putAll, Act.put, List.setIfInBounds_toArray, List.set_cons_zero, List.set_cons_succ]; rfl)) (hCont (W0.heap.size, V1.heap.size) _ (⟨HR2_2.out, HR3_2.out, HNE.out, HB2.out⟩))
        · skip
          refine event_step (v := .pointer (some ⟨W0.heap.size, 0, none⟩)) (w1 := (W0.alloc (.cells #[.int .i64 0, .int .i64 0, .slice none 0 0, .slice none 0 0] 27))) (by rfl) (by first | (go_simp; done) | (go_simp; rfl)) ?_
          have HR3_3 := Aside0.mk (And.intro (blk_new W0 (.cells #[.int .i64 0, .int .i64 0, .slice none 0 0, .slice none 0 0] 27)) (HBr.out.size))
          have hb := below_alloc (Below.refl W0.heap.size W0) (.cells #[.int .i64 0, .int .i64 0, .slice none 0 0, .slice none 0 0] 27)
          generalize (W0.alloc (.cells #[.int .i64 0, .int .i64 0, .slice none 0 0, .slice none 0 0] 27)) = V3 at HR3_3 hb ⊢
          have HB3 := Aside0.mk (bl_next' HBr.out hb)
          have hSn := HS.out _ HB3.out
          clear hb
          refine hK.out _ _ hSn (fun hHeld => ?_)
          clear hK K hSn hHeld
          refine norm_ (a' := ?_) ?_ ?_; rotate_left; (· show Act.put _ (some 12) _ = _; simp only [Act.put, N1_]; rfl)
          refine one_ (i := 2) (N := some 11) (bs_ 6 15) rfl rfl (by kernel_rfl) (by decide) (fun K hK => ?_)
          have HNE := Aside0.mk (Nat.ne_of_lt (blk_lt HR3_3.out.1))
          refine event_step (v := .pointer (some ⟨V3.heap.size, 0, none⟩)) (w1 := (V3.alloc (.cells #[.int .i64 0, .int .i64 0, .slice none 0 0, .slice none 0 0] 27))) (by rfl) (by first | (go_simp; done) | (go_simp; rfl)) ?_
          have HR2_4 := Aside0.mk (And.intro (blk_new V3 (.cells #[.int .i64 0, .int .i64 0, .slice none 0 0, .slice none 0 0] 27)) (HB3.out.size))
          have hb := below_alloc (Below.refl V3.heap.size V3) (.cells #[.int .i64 0, .int .i64 0, .slice none 0 0, .slice none 0 0] 27)
          generalize (V3.alloc (.cells #[.int .i64 0, .int .i64 0, .slice none 0 0, .slice none 0 0] 27)) = V4 at HR2_4 hb ⊢
          have HB4 := Aside0.mk (bl_next' HB3.out hb)
          have HR3_4 := Aside0.mk (And.intro (blk_below HR3_3.out.1 hb) HR3_3.out.2)
          have hSn := HS.out _ HB4.out
          clear hb
          refine hK.out _ _ hSn (fun hHeld => ?_)
          clear hK K hSn hHeld
          refine norm_ (a' := ?_) ?_ ?_; rotate_left; (· show Act.put _ (some 11) _ = _; simp only [Act.put, N1_]; rfl)
          exact norm_ (by first | (simp only [putAll, Act.put, List.setIfInBounds_toArray, List.set_cons_zero, List.set_cons_succ]; done) | (simp only [putAll, Act.put, List.setIfInBounds_toArray, List.set_cons_zero, List.set_cons_succ]; rfl)) (hCont (V3.heap.size, W0.heap.size) _ (⟨HR2_4.out, HR3_4.out, HNE.out, HB4.out⟩))
      rintro ⟨MB, HB⟩ WJ ⟨hR2, hR3, hne, hb⟩
      have HR2 := Aside0.mk hR2
      have HR3 := Aside0.mk hR3
      have HBJ := Aside0.mk hb
      clear hb HBr hR2 hR3
      refine norm_ (a' := ?_) ?_ ?_; rotate_left; (· simp only [putAll, Act.put, List.setIfInBounds_toArray, List.set_cons_zero, List.set_cons_succ]; rfl)
      have hlt0 := blk_lt HW.out.net.blk
      have hMg : w.heap.size < MB := Nat.lt_of_lt_of_le hlt0 HR2.out.2
      have hHg : w.heap.size < HB := Nat.lt_of_lt_of_le hlt0 HR3.out.2
      have hne' : MB ≠ HB := fun e => hne e.symm
      have m0 := cell_two HR2.out.1 0 rfl
      have m1 := cell_two HR2.out.1 1 rfl
      have m2 := cell_two HR2.out.1 2 rfl
      have m3 := cell_two HR2.out.1 3 rfl
      have mf0 := blk_frozen HR2.out.1 0
      have mf1 := blk_frozen HR2.out.1 1
      have mf2 := blk_frozen HR2.out.1 2
      have mf3 := blk_frozen HR2.out.1 3
      have HE1 := Aside0.mk ((HW.out.next HBJ.out).put4 HRR.out.1 HRR.out.2 HR2.out.1 hMg (.int .i64 lo) (.int .i64 hi) (.slice A js.length c) (.slice A' ms.length c'))
      have HH1 := Aside0.mk (far4 HR3.out.1 hne (.int .i64 lo) (.int .i64 hi) (.slice A js.length c) (.slice A' ms.length c'))
      refine one_ (i := 4) (N := none) (bs_ 6 31) rfl rfl (by kernel_rfl) (by decide) (fun K hK => ?_)
      refine skip_ (w1 := ?_) (by rfl) rfl ?_ ?_; rotate_left; (· go_simp; rfl)
      refine hK.out _ _ (⟨cell_two (HE1.out.1).net.blk 0 rfl, cell_two (HE1.out.1).net.blk 1 rfl, cell_two (HE1.out.1).net.blk 2 rfl, cell_two (HE1.out.1).net.blk 3 rfl⟩) (fun hHeld => ?_)
      clear hK K hHeld
      generalize ((((WJ.setCell ⟨MB, 0, none⟩ (.int .i64 lo)).setCell ⟨MB, 1, none⟩ (.int .i64 hi)).setCell ⟨MB, 2, none⟩ (.slice A js.length c)).setCell ⟨MB, 3, none⟩ (.slice A' ms.length c')) = W9 at HE1 HH1 ⊢
      clear m0 m1 m2 m3 mf0 mf1 mf2 mf3 HR2 HR3 HBJ HW HS HB0 hlt0
      have h0 := cell_two HH1.out 0 rfl
      have h1 := cell_two HH1.out 1 rfl
      have h2 := cell_two HH1.out 2 rfl
      have h3 := cell_two HH1.out 3 rfl
      have hf0 := blk_frozen HH1.out 0
      have hf1 := blk_frozen HH1.out 1
      have hf2 := blk_frozen HH1.out 2
      have hf3 := blk_frozen HH1.out 3
      have HE2 := Aside0.mk (HE1.out.1.put4 HRR.out.1 HRR.out.2 HH1.out hHg (.int .i64 lo) (.int .i64 hi) (.slice A js.length c) (.slice A' ms.length c'))
      have HM2 := Aside0.mk (far4 HE1.out.2 hne' (.int .i64 lo) (.int .i64 hi) (.slice A js.length c) (.slice A' ms.length c'))
      refine last_ (i := 5) (N := none) (bs_ 6 63) rfl rfl (by kernel_rfl) (by decide) (fun K hK => ?_)
      refine skip_ (w1 := ?_) (by rfl) rfl ?_ ?_; rotate_left; (· go_simp; rfl)
      refine hK.out _ _ ?_
      clear hK K
      refine done_ (by kernel_rfl) ?_
      generalize ((((W9.setCell ⟨HB, 0, none⟩ (.int .i64 lo)).setCell ⟨HB, 1, none⟩ (.int .i64 hi)).setCell ⟨HB, 2, none⟩ (.slice A js.length c)).setCell ⟨HB, 3, none⟩ (.slice A' ms.length c')) = W10 at HE2 HM2 ⊢
      clear HE1 HH1 h0 h1 h2 h3 hf0 hf1 hf2 hf3
      go_wp2_with (fail)
      refine start_ (n := 12) (S := fun w' => w'.cell? ⟨w.heap.size, 2, none⟩ = some (.slice A js.length c) ∧ w'.cell? ⟨w.heap.size, 3, none⟩ = some (.slice A' ms.length c')) (ds := [9, 11]) (bs_ 12 0) (by kernel_rfl) rfl rfl (⟨cell_two (HE2.out.1).net.blk 2 rfl, cell_two (HE2.out.1).net.blk 3 rfl⟩) (fun hHeld => ?_)
      have HW := Aside0.mk (HE2.out.1.next (Below.drew (Below.refl _ _)))
      have XW := Aside0.mk (blk_drew HM2.out)
      have XH := Aside0.mk (blk_drew HE2.out.2)
      clear HE2 HM2
      generalize W10.drew = W0 at HW XW XH hHeld ⊢
      have HB0 : Aside0 (w.heap.size ≤ W0.heap.size) := ⟨HW.out.net.bel.size⟩
      have HBr := Aside0.mk (Below.refl W0.heap.size W0)
      have HS : Aside0 (∀ W', Below W0.heap.size W0 W' → (fun w' => w'.cell? ⟨w.heap.size, 2, none⟩ = some (.slice A js.length c) ∧ w'.cell? ⟨w.heap.size, 3, none⟩ = some (.slice A' ms.length c')) W') := ⟨fun W' hb => ⟨cell_two (HW.out.next hb).net.blk 2 rfl, cell_two (HW.out.next hb).net.blk 3 rfl⟩⟩
      have HCJ := Aside0.mk HW.out.net.jr
      have HCM := Aside0.mk HW.out.net.mr
      refine pure_ (i := 1) (N := some 51) (v := ?_) (a' := ?_) (bs_ 12 2) rfl rfl (by kernel_rfl) (fun _ _ _ h => h) (Or.inl ⟨by rfl, ?_⟩) ?_ ?_; rotate_left; (· intro w'; go_simp; with_reducible rfl); rotate_left; (· simp only [Act.put, N1_]; rfl)
      refine take_ (i := 2) (N := some 52) (v := ?_) (a' := ?_) (bs_ 12 6) rfl rfl (by kernel_rfl) (fun _ _ _ h => h) (Or.inl ⟨by rfl, ?_⟩) hHeld ?_ ?_; rotate_left; (· rintro w' ⟨s0, s1⟩; go_simp; with_reducible rfl); rotate_left; (· simp only [Act.put, N1_]; rfl)
      refine pure_ (i := 5) (N := some 55) (v := ?_) (a' := ?_) (bs_ 12 38) rfl rfl (by kernel_rfl) (fun _ _ _ h => h) (Or.inl ⟨by rfl, ?_⟩) ?_ ?_; rotate_left; (· intro w'; go_simp; with_reducible rfl); rotate_left; (· simp only [Act.put, N1_]; rfl)
      refine take_ (i := 6) (N := some 56) (v := ?_) (a' := ?_) (bs_ 12 102) rfl rfl (by kernel_rfl) (fun _ _ _ h => h) (Or.inl ⟨by rfl, ?_⟩) hHeld ?_ ?_; rotate_left; (· rintro w' ⟨s0, s1⟩; go_simp; with_reducible rfl); rotate_left; (· simp only [Act.put, N1_]; rfl)
      clear hHeld
      refine join_ (σ := (Nat) × (Option Addr) × (Nat) × (Nat) × (Option Addr) × (Nat)) 3 (bs_ 12 511) (fun s => [(50, .slice (some ⟨s.1, 0, none⟩) 0 0), (53, .slice s.2.1 js.length s.2.2.1), (54, .slice (some ⟨s.2.2.2.1, 0, none⟩) 0 0), (57, .slice s.2.2.2.2.1 ms.length s.2.2.2.2.2), (58, .pointer (some ⟨MB, 2, none⟩))]) (fun s w' => Kd.R k50 50 w' w.heap.size (fun _ => True) (.slice (some ⟨s.1, 0, none⟩) 0 0) [] ∧ Kd.R k50 50 w' w.heap.size (fun _ => True) (.slice s.2.1 js.length s.2.2.1) js ∧ Kd.R k54 54 w' w.heap.size (fun _ => True) (.slice (some ⟨s.2.2.2.1, 0, none⟩) 0 0) [] ∧ Kd.R k54 54 w' w.heap.size (fun _ => True) (.slice s.2.2.2.2.1 ms.length s.2.2.2.2.2) ms ∧ Below W0.heap.size W0 w') ?_ ?_
      rotate_left
      · intro hCont
        refine two_ (i := 0) (j := 4) (Ni := some 50) (Nj := some 54) (bs_ 12 103) (bs_ 12 118) rfl rfl rfl rfl (by kernel_rfl) (by decide) (by decide) (fun K hK => ?_) (fun K hK => ?_)
        · skip
          refine event_step (v := .slice (some ⟨W0.heap.size, 0, none⟩) 0 0) (w1 := (W0.alloc (.cells #[] 50))) (by rfl) (by first | (go_simp; done) | (go_simp; rfl)) ?_
          have HR0_1 := Aside0.mk (lit_R k50 W0 w.heap.size 50 (Nat.le_trans HB0.out HBr.out.size))
          have hb := below_alloc (Below.refl W0.heap.size W0) (.cells #[] 50)
          generalize (W0.alloc (.cells #[] 50)) = V1 at HR0_1 hb ⊢
          have HB1 := Aside0.mk (bl_next' HBr.out hb)
          have hSn := HS.out _ HB1.out
          clear hb
          refine hK.out _ _ hSn (fun hHeld => ?_)
          clear hK K hSn hHeld
          refine norm_ (a' := ?_) ?_ ?_; rotate_left; (· show Act.put _ (some 50) _ = _; simp only [Act.put, N1_]; rfl)
          refine two_ (i := 3) (j := 4) (Ni := some 53) (Nj := some 54) (bs_ 12 111) (bs_ 12 119) rfl rfl rfl rfl (by kernel_rfl) (by decide) (by decide) (fun K hK => ?_) (fun K hK => ?_)
          · skip
            refine copy_step k50 w.heap.size (W0.heap.size) (by rfl) (.tmp 50) (.tmp 52) 24 50 (.agg #[(.int .i64 0), (.int .i64 0), (.int .i64 0), (.int .i64 0), (.int .i64 0)]) 40 (by rfl) Try.underlying24 info50 rfl (by decide) (by omega) js A c rfl rfl HR0_1.out (Kd.C_below HCJ.out HB1.out) (fun _ x cs h => M_of_K50 x cs h) (Nat.le_trans HB0.out HB1.out.size) hln50 ?_
            intro A3_2 c3_2 V2 hR hb
            have HR3_2 := Aside0.mk hR
            clear hR
            have HB2 := Aside0.mk (bl_next' HB1.out hb)
            have HR0_2 := Aside0.mk (Kd.R_below HR0_1.out hb)
            have hSn := HS.out _ HB2.out
            clear hb
            refine hK.out _ _ hSn (fun hHeld => ?_)
            clear hK K hSn hHeld
            refine norm_ (a' := ?_) ?_ ?_; rotate_left; (· show Act.put _ (some 53) _ = _; simp only [Act.put, N1_]; rfl)
            refine pure_ (i := 8) (N := some 58) (v := ?_) (a' := ?_) (bs_ 12 367) rfl rfl (by kernel_rfl) (fun _ _ _ h => h) (Or.inl ⟨by rfl, ?_⟩) ?_ ?_; rotate_left; (· intro w'; go_simp; with_reducible rfl); rotate_left; (· simp only [Act.put, N1_]; rfl)
            refine one_ (i := 4) (N := some 54) (bs_ 12 383) rfl rfl (by kernel_rfl) (by decide) (fun K hK => ?_)
            refine event_step (v := .slice (some ⟨V2.heap.size, 0, none⟩) 0 0) (w1 := (V2.alloc (.cells #[] 54))) (by rfl) (by first | (go_simp; done) | (go_simp; rfl)) ?_
            have HR4_3 := Aside0.mk (lit_R k54 V2 w.heap.size 54 (Nat.le_trans HB0.out HB2.out.size))
            have hb := below_alloc (Below.refl V2.heap.size V2) (.cells #[] 54)
            generalize (V2.alloc (.cells #[] 54)) = V3 at HR4_3 hb ⊢
            have HB3 := Aside0.mk (bl_next' HB2.out hb)
            have HR0_3 := Aside0.mk (Kd.R_below HR0_2.out hb)
            have HR3_3 := Aside0.mk (Kd.R_below HR3_2.out hb)
            have hSn := HS.out _ HB3.out
            clear hb
            refine hK.out _ _ hSn (fun hHeld => ?_)
            clear hK K hSn hHeld
            refine norm_ (a' := ?_) ?_ ?_; rotate_left; (· show Act.put _ (some 54) _ = _; simp only [Act.put, N1_]; rfl)
            refine one_ (i := 7) (N := some 57) (bs_ 12 511) rfl rfl (by kernel_rfl) (by decide) (fun K hK => ?_)
            refine copy_step k54 w.heap.size (V2.heap.size) (by rfl) (.tmp 54) (.tmp 56) 25 54 (.agg #[(.int .i64 0), (.int .i64 0), (.int .i64 0), (.int .i64 0)]) 32 (by rfl) Try.underlying25 info54 rfl (by decide) (by omega) ms A' c' rfl rfl HR4_3.out (Kd.C_below HCM.out HB3.out) (fun _ x cs h => M_of_K54 x cs h) (Nat.le_trans HB0.out HB3.out.size) hln54 ?_
            intro A7_4 c7_4 V4 hR hb
            have HR7_4 := Aside0.mk hR
            clear hR
            have HB4 := Aside0.mk (bl_next' HB3.out hb)
            have HR0_4 := Aside0.mk (Kd.R_below HR0_3.out hb)
            have HR3_4 := Aside0.mk (Kd.R_below HR3_3.out hb)
            have HR4_4 := Aside0.mk (Kd.R_below HR4_3.out hb)
            have hSn := HS.out _ HB4.out
            clear hb
            refine hK.out _ _ hSn (fun hHeld => ?_)
            clear hK K hSn hHeld
            refine norm_ (a' := ?_) ?_ ?_; rotate_left; (· show Act.put _ (some 57) _ = _; simp only [Act.put, N1_]; rfl)
            exact norm_ (by first | (simp only [putAll, Act.put, List.setIfInBounds_toArray, List.set_cons_zero, List.set_cons_succ]; done) | (simp only [putAll, Act.put, List.setIfInBounds_toArray, List.set_cons_zero, List.set_cons_succ]; rfl)) (hCont (W0.heap.size, A3_2, c3_2, V2.heap.size, A7_4, c7_4) _ (⟨HR0_4.out, HR3_4.out, HR4_4.out, HR7_4.out, HB4.out⟩))
          · skip
            refine event_step (v := .slice (some ⟨V1.heap.size, 0, none⟩) 0 0) (w1 := (V1.alloc (.cells #[] 54))) (by rfl) (by first | (go_simp; done) | (go_simp; rfl)) ?_
            have HR4_5 := Aside0.mk (lit_R k54 V1 w.heap.size 54 (Nat.le_trans HB0.out HB1.out.size))
            have hb := below_alloc (Below.refl V1.heap.size V1) (.cells #[] 54)
            generalize (V1.alloc (.cells #[] 54)) = V5 at HR4_5 hb ⊢
            have HB5 := Aside0.mk (bl_next' HB1.out hb)
            have HR0_5 := Aside0.mk (Kd.R_below HR0_1.out hb)
            have hSn := HS.out _ HB5.out
            clear hb
            refine hK.out _ _ hSn (fun hHeld => ?_)
            clear hK K hSn hHeld
            refine norm_ (a' := ?_) ?_ ?_; rotate_left; (· show Act.put _ (some 54) _ = _; simp only [Act.put, N1_]; rfl)
            refine one_ (i := 3) (N := some 53) (bs_ 12 127) rfl rfl (by kernel_rfl) (by decide) (fun K hK => ?_)
            refine copy_step k50 w.heap.size (W0.heap.size) (by rfl) (.tmp 50) (.tmp 52) 24 50 (.agg #[(.int .i64 0), (.int .i64 0), (.int .i64 0), (.int .i64 0), (.int .i64 0)]) 40 (by rfl) Try.underlying24 info50 rfl (by decide) (by omega) js A c rfl rfl HR0_5.out (Kd.C_below HCJ.out HB5.out) (fun _ x cs h => M_of_K50 x cs h) (Nat.le_trans HB0.out HB5.out.size) hln50 ?_
            intro A3_6 c3_6 V6 hR hb
            have HR3_6 := Aside0.mk hR
            clear hR
            have HB6 := Aside0.mk (bl_next' HB5.out hb)
            have HR0_6 := Aside0.mk (Kd.R_below HR0_5.out hb)
            have HR4_6 := Aside0.mk (Kd.R_below HR4_5.out hb)
            have hSn := HS.out _ HB6.out
            clear hb
            refine hK.out _ _ hSn (fun hHeld => ?_)
            clear hK K hSn hHeld
            refine norm_ (a' := ?_) ?_ ?_; rotate_left; (· show Act.put _ (some 53) _ = _; simp only [Act.put, N1_]; rfl)
            refine pure_ (i := 8) (N := some 58) (v := ?_) (a' := ?_) (bs_ 12 383) rfl rfl (by kernel_rfl) (fun _ _ _ h => h) (Or.inl ⟨by rfl, ?_⟩) ?_ ?_; rotate_left; (· intro w'; go_simp; with_reducible rfl); rotate_left; (· simp only [Act.put, N1_]; rfl)
            refine one_ (i := 7) (N := some 57) (bs_ 12 511) rfl rfl (by kernel_rfl) (by decide) (fun K hK => ?_)
            refine copy_step k54 w.heap.size (V1.heap.size) (by rfl) (.tmp 54) (.tmp 56) 25 54 (.agg #[(.int .i64 0), (.int .i64 0), (.int .i64 0), (.int .i64 0)]) 32 (by rfl) Try.underlying25 info54 rfl (by decide) (by omega) ms A' c' rfl rfl HR4_6.out (Kd.C_below HCM.out HB6.out) (fun _ x cs h => M_of_K54 x cs h) (Nat.le_trans HB0.out HB6.out.size) hln54 ?_
            intro A7_7 c7_7 V7 hR hb
            have HR7_7 := Aside0.mk hR
            clear hR
            have HB7 := Aside0.mk (bl_next' HB6.out hb)
            have HR0_7 := Aside0.mk (Kd.R_below HR0_6.out hb)
            have HR4_7 := Aside0.mk (Kd.R_below HR4_6.out hb)
            have HR3_7 := Aside0.mk (Kd.R_below HR3_6.out hb)
            have hSn := HS.out _ HB7.out
            clear hb
            refine hK.out _ _ hSn (fun hHeld => ?_)
            clear hK K hSn hHeld
            refine norm_ (a' := ?_) ?_ ?_; rotate_left; (· show Act.put _ (some 57) _ = _; simp only [Act.put, N1_]; rfl)
            exact norm_ (by first | (simp only [putAll, Act.put, List.setIfInBounds_toArray, List.set_cons_zero, List.set_cons_succ]; done) | (simp only [putAll, Act.put, List.setIfInBounds_toArray, List.set_cons_zero, List.set_cons_succ]; rfl)) (hCont (W0.heap.size, A3_6, c3_6, V1.heap.size, A7_7, c7_7) _ (⟨HR0_7.out, HR3_7.out, HR4_7.out, HR7_7.out, HB7.out⟩))
        · skip
          refine event_step (v := .slice (some ⟨W0.heap.size, 0, none⟩) 0 0) (w1 := (W0.alloc (.cells #[] 54))) (by rfl) (by first | (go_simp; done) | (go_simp; rfl)) ?_
          have HR4_8 := Aside0.mk (lit_R k54 W0 w.heap.size 54 (Nat.le_trans HB0.out HBr.out.size))
          have hb := below_alloc (Below.refl W0.heap.size W0) (.cells #[] 54)
          generalize (W0.alloc (.cells #[] 54)) = V8 at HR4_8 hb ⊢
          have HB8 := Aside0.mk (bl_next' HBr.out hb)
          have hSn := HS.out _ HB8.out
          clear hb
          refine hK.out _ _ hSn (fun hHeld => ?_)
          clear hK K hSn hHeld
          refine norm_ (a' := ?_) ?_ ?_; rotate_left; (· show Act.put _ (some 54) _ = _; simp only [Act.put, N1_]; rfl)
          refine one_ (i := 0) (N := some 50) (bs_ 12 119) rfl rfl (by kernel_rfl) (by decide) (fun K hK => ?_)
          refine event_step (v := .slice (some ⟨V8.heap.size, 0, none⟩) 0 0) (w1 := (V8.alloc (.cells #[] 50))) (by rfl) (by first | (go_simp; done) | (go_simp; rfl)) ?_
          have HR0_9 := Aside0.mk (lit_R k50 V8 w.heap.size 50 (Nat.le_trans HB0.out HB8.out.size))
          have hb := below_alloc (Below.refl V8.heap.size V8) (.cells #[] 50)
          generalize (V8.alloc (.cells #[] 50)) = V9 at HR0_9 hb ⊢
          have HB9 := Aside0.mk (bl_next' HB8.out hb)
          have HR4_9 := Aside0.mk (Kd.R_below HR4_8.out hb)
          have hSn := HS.out _ HB9.out
          clear hb
          refine hK.out _ _ hSn (fun hHeld => ?_)
          clear hK K hSn hHeld
          refine norm_ (a' := ?_) ?_ ?_; rotate_left; (· show Act.put _ (some 50) _ = _; simp only [Act.put, N1_]; rfl)
          refine one_ (i := 3) (N := some 53) (bs_ 12 127) rfl rfl (by kernel_rfl) (by decide) (fun K hK => ?_)
          refine copy_step k50 w.heap.size (V8.heap.size) (by rfl) (.tmp 50) (.tmp 52) 24 50 (.agg #[(.int .i64 0), (.int .i64 0), (.int .i64 0), (.int .i64 0), (.int .i64 0)]) 40 (by rfl) Try.underlying24 info50 rfl (by decide) (by omega) js A c rfl rfl HR0_9.out (Kd.C_below HCJ.out HB9.out) (fun _ x cs h => M_of_K50 x cs h) (Nat.le_trans HB0.out HB9.out.size) hln50 ?_
          intro A3_10 c3_10 V10 hR hb
          have HR3_10 := Aside0.mk hR
          clear hR
          have HB10 := Aside0.mk (bl_next' HB9.out hb)
          have HR4_10 := Aside0.mk (Kd.R_below HR4_9.out hb)
          have HR0_10 := Aside0.mk (Kd.R_below HR0_9.out hb)
          have hSn := HS.out _ HB10.out
          clear hb
          refine hK.out _ _ hSn (fun hHeld => ?_)
          clear hK K hSn hHeld
          refine norm_ (a' := ?_) ?_ ?_; rotate_left; (· show Act.put _ (some 53) _ = _; simp only [Act.put, N1_]; rfl)
          refine pure_ (i := 8) (N := some 58) (v := ?_) (a' := ?_) (bs_ 12 383) rfl rfl (by kernel_rfl) (fun _ _ _ h => h) (Or.inl ⟨by rfl, ?_⟩) ?_ ?_; rotate_left; (· intro w'; go_simp; with_reducible rfl); rotate_left; (· simp only [Act.put, N1_]; rfl)
          refine one_ (i := 7) (N := some 57) (bs_ 12 511) rfl rfl (by kernel_rfl) (by decide) (fun K hK => ?_)
          refine copy_step k54 w.heap.size (W0.heap.size) (by rfl) (.tmp 54) (.tmp 56) 25 54 (.agg #[(.int .i64 0), (.int .i64 0), (.int .i64 0), (.int .i64 0)]) 32 (by rfl) Try.underlying25 info54 rfl (by decide) (by omega) ms A' c' rfl rfl HR4_10.out (Kd.C_below HCM.out HB10.out) (fun _ x cs h => M_of_K54 x cs h) (Nat.le_trans HB0.out HB10.out.size) hln54 ?_
          intro A7_11 c7_11 V11 hR hb
          have HR7_11 := Aside0.mk hR
          clear hR
          have HB11 := Aside0.mk (bl_next' HB10.out hb)
          have HR4_11 := Aside0.mk (Kd.R_below HR4_10.out hb)
          have HR0_11 := Aside0.mk (Kd.R_below HR0_10.out hb)
          have HR3_11 := Aside0.mk (Kd.R_below HR3_10.out hb)
          have hSn := HS.out _ HB11.out
          clear hb
          refine hK.out _ _ hSn (fun hHeld => ?_)
          clear hK K hSn hHeld
          refine norm_ (a' := ?_) ?_ ?_; rotate_left; (· show Act.put _ (some 57) _ = _; simp only [Act.put, N1_]; rfl)
          exact norm_ (by first | (simp only [putAll, Act.put, List.setIfInBounds_toArray, List.set_cons_zero, List.set_cons_succ]; done) | (simp only [putAll, Act.put, List.setIfInBounds_toArray, List.set_cons_zero, List.set_cons_succ]; rfl)) (hCont (V8.heap.size, A3_10, c3_10, W0.heap.size, A7_11, c7_11) _ (⟨HR0_11.out, HR3_11.out, HR4_11.out, HR7_11.out, HB11.out⟩))
      rintro ⟨g0, A3, c3, g4, A7, c7⟩ WJ ⟨hR0, hR3, hR4, hR7, hb⟩
      have HR0 := Aside0.mk hR0
      have HR3 := Aside0.mk hR3
      have HR4 := Aside0.mk hR4
      have HR7 := Aside0.mk hR7
      have HBJ := Aside0.mk hb
      clear hb HBr hR0 hR3 hR4 hR7
      refine norm_ (a' := ?_) ?_ ?_; rotate_left; (· simp only [putAll, Act.put, List.setIfInBounds_toArray, List.set_cons_zero, List.set_cons_succ]; rfl)
      have XJ := Aside0.mk (blk_below XW.out HBJ.out)
      have x2 := cell_two XJ.out 2 rfl
      have x3 := cell_two XJ.out 3 rfl
      have f2 := blk_frozen XJ.out 2
      have f3 := blk_frozen XJ.out 3
      refine last_ (i := 9) (N := none) (bs_ 12 1023) rfl rfl (by kernel_rfl) (by decide) (fun K hK => ?_)
      refine skip_ (w1 := ?_) (by rfl) rfl ?_ ?_; rotate_left; (· go_simp; rfl)
      refine hK.out _ _ ?_
      clear hK K
      refine pure_ (i := 10) (N := some 59) (v := ?_) (a' := ?_) (bs_ 12 2047) rfl rfl (by kernel_rfl) (fun _ _ _ h => h) (Or.inl ⟨by rfl, ?_⟩) ?_ ?_; rotate_left; (· intro w'; go_simp; with_reducible rfl); rotate_left; (· simp only [Act.put, N1_]; rfl)
      refine last_ (i := 11) (N := none) (bs_ 12 4095) rfl rfl (by kernel_rfl) (by decide) (fun K hK => ?_)
      refine skip_ (w1 := ?_) (by rfl) rfl ?_ ?_; rotate_left; (· go_simp; rfl)
      refine hK.out _ _ ?_
      clear hK K
      refine done_ (by kernel_rfl) ?_
      have HXA : Aside0 (MoAt w _ lo hi A c js A' c' ms SB pl ph MB A3 c3 js A7 c7 ms HB lo hi) := ⟨⟨XAt.fill (HW.out.next HBJ.out) HRR.out.1 HRR.out.2 XJ.out hMg HR3.out HR7.out, blk_far (blk_far (blk_below XH.out HBJ.out) hne _) hne _, hne, hHg⟩⟩
      generalize ((WJ.setCell ⟨MB, 2, none⟩ (.slice A3 js.length c3)).setCell ⟨MB, 3, none⟩ (.slice A7 ms.length c7)) = WX at HXA ⊢
      clear XJ XH HR3 HR7 HR0 HR4 HBJ HW XW HCJ HCM HS HB0 x2 x3 f2 f3 hMg hHg hne hne'
      obtain ⟨gJ, eJ⟩ : ∃ gJ, A3 = some ⟨gJ, 0, none⟩ := by
        obtain ⟨g, cap, e, _⟩ := Kd.R_form HXA.out.x.jr (by omega)
        injection e with e1
        exact ⟨g, e1⟩
      subst eJ
      have s2 := cell_two HXA.out.x.en.net.blk 2 rfl
      have x2 := cell_two HXA.out.x.xb 2 rfl
      obtain ⟨e0, e1, q0, q1⟩ := HXA.out.x.elemJ jn hjn
      have hJn := junction_ok HOK.out.jok jn
      have HMJ : Aside0 (js.set jn ⟨⟨mn 1000000 ((rd_T50 js jn).f0.f0 + b), mn 1000000 ((rd_T50 js jn).f0.f1 + b)⟩, (rd_T50 js jn).f1, (rd_T50 js jn).f2, (rd_T50 js jn).f3⟩ = js.set jn (moreJ b (rd_T50 js jn))) := ⟨by rw [mn_min, mn_min]; rfl⟩
      have hw2 : wrap64 ((rd_T50 js jn).f0.f0 + b) = (rd_T50 js jn).f0.f0 + b := w64 (by omega) (by omega)
      have hw3 : wrap64 ((rd_T50 js jn).f0.f1 + b) = (rd_T50 js jn).f0.f1 + b := w64 (by omega) (by omega)
      have i0 : (0 : Int) ≤ (jn : Int) := Int.natCast_nonneg jn
      have i1 : (jn : Int) < (js.length : Int) := by omega
      skip
      have HY := Aside0.mk (HXA.out.next (below_alloc (Below.refl _ _) (.cells #[.int .i64 (rd_T50 js jn).f0.f0, .int .i64 (rd_T50 js jn).f0.f1] 23)))
      have QY := Aside0.mk (blk_new WX (.cells #[.int .i64 (rd_T50 js jn).f0.f0, .int .i64 (rd_T50 js jn).f0.f1] 23))
      clear hJn
      go_wp2_with (fail)
      refine start_ (n := 19) (S := fun w' => w'.cell? ⟨MB, 2, none⟩ = some (.slice (some ⟨gJ, 0, none⟩) js.length c3) ∧ w'.cell? ⟨WX.heap.size, 0, none⟩ = some (.int .i64 (rd_T50 js jn).f0.f0) ∧ w'.cell? ⟨WX.heap.size, 1, none⟩ = some (.int .i64 (rd_T50 js jn).f0.f1)) (ds := [18]) (bs_ 19 0) (by kernel_rfl) rfl rfl (⟨cell_two HY.out.x.xb 2 rfl, cell_two QY.out 0 rfl, cell_two QY.out 1 rfl⟩) (fun hHeld => ?_)
      have HY1 := Aside0.mk (HY.out.next (Below.drew (Below.refl _ _)))
      have QY1 := Aside0.mk (blk_drew QY.out)
      clear HY QY
      refine pure_ (i := 0) (N := some 72) (v := ?_) (a' := ?_) (bs_ 19 1) rfl rfl (by kernel_rfl) (fun _ _ _ h => h) (Or.inl ⟨by rfl, ?_⟩) ?_ ?_; rotate_left; (· intro w'; go_simp; with_reducible rfl); rotate_left; (· simp only [Act.put, N1_]; rfl)
      refine take_ (i := 1) (N := some 73) (v := ?_) (a' := ?_) (bs_ 19 3) rfl rfl (by kernel_rfl) (fun _ _ _ h => h) (Or.inl ⟨by rfl, ?_⟩) hHeld ?_ ?_; rotate_left; (· rintro w' ⟨s0, s1, s2⟩; go_simp; with_reducible rfl); rotate_left; (· simp only [Act.put, N1_]; rfl)
      refine pure_ (i := 2) (N := some 74) (v := ?_) (a' := ?_) (bs_ 19 7) rfl rfl (by kernel_rfl) (fun _ _ _ h => h) (Or.inl ⟨by rfl, ?_⟩) ?_ ?_; rotate_left; (· intro w'; go_simp; with_reducible rfl); rotate_left; (· simp only [Act.put, N1_]; rfl)
      refine pure_ (i := 3) (N := some 75) (v := ?_) (a' := ?_) (bs_ 19 15) rfl rfl (by kernel_rfl) (fun _ _ _ h => h) (Or.inl ⟨by rfl, ?_⟩) ?_ ?_; rotate_left; (· intro w'; go_simp; with_reducible rfl); rotate_left; (· simp only [Act.put, N1_]; rfl)
      refine take_ (i := 4) (N := some 76) (v := ?_) (a' := ?_) (bs_ 19 31) rfl rfl (by kernel_rfl) (fun _ _ _ h => h) (Or.inl ⟨by rfl, ?_⟩) hHeld ?_ ?_; rotate_left; (· rintro w' ⟨s0, s1, s2⟩; go_simp; with_reducible rfl); rotate_left; (· simp only [Act.put, N1_]; rfl)
      refine pure_ (i := 5) (N := some 77) (v := ?_) (a' := ?_) (bs_ 19 63) rfl rfl (by kernel_rfl) (fun _ _ _ h => h) (Or.inl ⟨by rfl, ?_⟩) ?_ ?_; rotate_left; (· intro w'; go_simp; with_reducible rfl); rotate_left; (· simp only [Act.put, N1_]; rfl)
      refine pure_ (i := 6) (N := some 78) (v := ?_) (a' := ?_) (bs_ 19 127) rfl rfl (by kernel_rfl) (fun _ _ _ h => h) (Or.inl ⟨by rfl, ?_⟩) ?_ ?_; rotate_left; (· intro w'; go_simp; with_reducible rfl); rotate_left; (· simp only [Act.put, N1_]; rfl)
      refine pure_ (i := 7) (N := some 79) (v := ?_) (a' := ?_) (bs_ 19 255) rfl rfl (by kernel_rfl) (fun _ _ _ h => h) (Or.inl ⟨by rfl, ?_⟩) ?_ ?_; rotate_left; (· intro w'; go_simp; with_reducible rfl); rotate_left; (· simp only [Act.put, N1_]; rfl)
      refine pure_ (i := 8) (N := some 80) (v := ?_) (a' := ?_) (bs_ 19 511) rfl rfl (by kernel_rfl) (fun _ _ _ h => h) (Or.inl ⟨by rfl, ?_⟩) ?_ ?_; rotate_left; (· intro w'; go_simp; with_reducible rfl); rotate_left; (· simp only [Act.put, N1_]; rfl)
      refine pure_ (i := 9) (N := some 81) (v := ?_) (a' := ?_) (bs_ 19 1023) rfl rfl (by kernel_rfl) (fun _ _ _ h => h) (Or.inl ⟨by rfl, ?_⟩) ?_ ?_; rotate_left; (· intro w'; go_simp; with_reducible rfl); rotate_left; (· simp only [Act.put, N1_]; rfl)
      refine take_ (i := 10) (N := some 82) (v := ?_) (a' := ?_) (bs_ 19 2047) rfl rfl (by kernel_rfl) (fun _ _ _ h => h) (Or.inl ⟨by rfl, ?_⟩) hHeld ?_ ?_; rotate_left; (· rintro w' ⟨s0, s1, s2⟩; go_simp; with_reducible rfl); rotate_left; (· simp only [Act.put, N1_]; rfl)
      refine pure_ (i := 11) (N := some 83) (v := ?_) (a' := ?_) (bs_ 19 4095) rfl rfl (by kernel_rfl) (fun _ _ _ h => h) (Or.inl ⟨by rfl, ?_⟩) ?_ ?_; rotate_left; (· intro w'; go_simp; with_reducible rfl); rotate_left; (· simp only [Act.put, N1_]; rfl)
      refine pure_ (i := 12) (N := some 84) (v := ?_) (a' := ?_) (bs_ 19 8191) rfl rfl (by kernel_rfl) (fun _ _ _ h => h) (Or.inl ⟨by rfl, ?_⟩) ?_ ?_; rotate_left; (· intro w'; go_simp; with_reducible rfl); rotate_left; (· simp only [Act.put, N1_]; rfl)
      refine pure_ (i := 13) (N := some 85) (v := ?_) (a' := ?_) (bs_ 19 16383) rfl rfl (by kernel_rfl) (fun _ _ _ h => h) (Or.inl ⟨by rfl, ?_⟩) ?_ ?_; rotate_left; (· intro w'; go_simp; with_reducible rfl); rotate_left; (· simp only [Act.put, N1_]; rfl)
      refine pure_ (i := 14) (N := some 86) (v := ?_) (a' := ?_) (bs_ 19 32767) rfl rfl (by kernel_rfl) (fun _ _ _ h => h) (Or.inl ⟨by rfl, ?_⟩) ?_ ?_; rotate_left; (· intro w'; go_simp; with_reducible rfl); rotate_left; (· simp only [Act.put, N1_]; rfl)
      refine one_ (i := 15) (N := some 87) (bs_ 19 65535) rfl rfl (by kernel_rfl) (by decide) (fun K hK => ?_)
      refine goes_ Try.func27 (by kernel_rfl) rfl #[.int .i64 (mn 1000000 ((rd_T50 js jn).f0.f0 + b)), .int .i64 (mn 1000000 ((rd_T50 js jn).f0.f1 + b))] (by rfl) rfl rfl (by (try simp only [LM_]); try rfl) ?_
      refine (gasworkslaw06_span.calls (mn 1000000 ((rd_T50 js jn).f0.f0 + b)) (mn 1000000 ((rd_T50 js jn).f0.f1 + b)) (mn 1000000 ((rd_T50 js jn).f0.f0 + b)) (mn 1000000 ((rd_T50 js jn).f0.f1 + b)) _ rfl).mono ?_
      rintro e W12 ⟨rfl, hb⟩
      refine ⟨_, rfl, ?_⟩
      have HZ := Aside0.mk (HY1.out.next hb)
      have QZ := Aside0.mk (blk_below QY1.out hb)
      clear hb hHeld
      obtain ⟨d0, d1, q0, q1⟩ := HZ.out.x.elemJ jn hjn
      refine hK.out _ _ ⟨cell_two HZ.out.x.xb 2 rfl, cell_two QZ.out 0 rfl, cell_two QZ.out 1 rfl⟩ (fun hHeld => ?_)
      clear hK K
      refine norm_ (a' := ?_) ?_ ?_; rotate_left; (· show Act.put _ (some 87) _ = _; simp only [Act.put, N1_]; rfl)
      refine pure_ (i := 16) (N := some 88) (v := ?_) (a' := ?_) (bs_ 19 131071) rfl rfl (by kernel_rfl) (fun _ _ _ h => h) (Or.inl ⟨by rfl, ?_⟩) ?_ ?_; rotate_left; (· intro w'; go_simp; with_reducible rfl); rotate_left; (· simp only [Act.put, N1_]; rfl)
      refine pure_ (i := 17) (N := some 89) (v := ?_) (a' := ?_) (bs_ 19 262143) rfl rfl (by kernel_rfl) (fun _ _ _ h => h) (Or.inl ⟨by rfl, ?_⟩) ?_ ?_; rotate_left; (· intro w'; go_simp; with_reducible rfl); rotate_left; (· simp only [Act.put, N1_]; rfl)
      refine last_ (i := 18) (N := none) (bs_ 19 524287) rfl rfl (by kernel_rfl) (by decide) (fun K hK => ?_)
      refine skip_ (w1 := ?_) (by rfl) rfl ?_ ?_; rotate_left; (· go_simp; rfl)
      refine hK.out _ _ ?_
      clear hK K
      refine done_ (by kernel_rfl) ?_
      have HP := Aside0.mk (HZ.out.putJ HRR.out.1 HRR.out.2 jn hjn (mn 1000000 ((rd_T50 js jn).f0.f0 + b)) (mn 1000000 ((rd_T50 js jn).f0.f1 + b)))
      rw [HMJ.out] at HP
      generalize ((W12.setCell ⟨gJ, jn * 5, none⟩ (.int .i64 (mn 1000000 ((rd_T50 js jn).f0.f0 + b)))).setCell ⟨gJ, jn * 5 + 1, none⟩ (.int .i64 (mn 1000000 ((rd_T50 js jn).f0.f1 + b)))) = WP at HP ⊢
      clear HZ QZ d0 d1 q0 q1 e0 e1 x2 s2 hw2 hw3 i0 i1 HXA HMJ hz hjl0
      generalize js.set jn (moreJ b (rd_T50 js jn)) = yj at HP HMo ⊢
      have s3 := cell_two HP.out.x.en.net.blk 3 rfl
      go_upto_if 93 with (fail)
      go_cut [] (fun wc => ∃ ym : List S54, Aside0 (MoAt w wc lo hi A c js A' c' ms SB pl ph MB (some ⟨gJ, 0, none⟩) c3 yj A7 c7 ym HB lo hi) ∧ Aside0 (MoreM ms ym))
      case first =>
        by_cases hm0 : ms.length = 0
        · have d0 : decide ((0 : Int) < (ms.length : Int)) = false := decide_eq_false (by omega)
          have d0' : ¬ 0 < ms.length := by omega
          clear hm0
          go_wp2_with (fail)
          go_meet
          case rel => exact ⟨ms, HP, ⟨moreM_same HOK.out⟩⟩
        · have d0 : decide ((0 : Int) < (ms.length : Int)) = true := decide_eq_true (by omega)
          have d0' : 0 < ms.length := by omega
          obtain ⟨kn, hz, hkn⟩ := rem_nat (N := ms.length) ho.1 (by omega)
          have hml0 : ((ms.length : Int) == 0) = false := by rw [beq_eq_false_iff_ne]; omega
          obtain ⟨gM, eM⟩ : ∃ gM, A7 = some ⟨gM, 0, none⟩ := by
            obtain ⟨g, cap, e, _⟩ := Kd.R_form HP.out.x.mr (by omega)
            injection e with e1
            exact ⟨g, e1⟩
          subst eM
          clear hm0
          have x3 := cell_two HP.out.x.xb 3 rfl
          obtain ⟨e1, q1⟩ := HP.out.x.elemD kn hkn
          obtain ⟨r, hr7, hr0⟩ := rem_seven hb0.1
          have hMn := mains_ok HOK.out.mok kn hkn
          have hw2 : wrap64 ((rd_T54 ms kn).f1 + r) = (rd_T54 ms kn).f1 + r := w64 (by omega) (by omega)
          have i0 : (0 : Int) ≤ (kn : Int) := Int.natCast_nonneg kn
          have i1 : (kn : Int) < (ms.length : Int) := by omega
          have HMM := Aside0.mk (moreM_set HOK.out hkn (r := r) (by omega))
          have HP1 := Aside0.mk (HP.out.putD HRR.out.1 HRR.out.2 kn hkn (mn 1000 ((rd_T54 ms kn).f1 + r)))
          have hp9 := pow_named9 (q := kn) (by omega)
          obtain ⟨p, hp8, hpw⟩ := hp9
          have HPW := Aside0.mk hpw
          clear hpw
          obtain ⟨L2, H2, hT1, hT2, hT3⟩ := HTw.out p
          have HT1 := Aside0.mk hT1
          clear hT1 hMn
          go_wp2_with (fail)
          refine start_ (n := 17) (S := fun w' => w'.cell? ⟨MB, 3, none⟩ = some (.slice (some ⟨gM, 0, none⟩) ms.length c7) ∧ w'.cell? ⟨gM, kn * 4 + 1, none⟩ = some (.int .i64 (rd_T54 ms kn).f1)) (ds := [16]) (bs_ 17 0) (by kernel_rfl) rfl rfl (⟨x3, e1⟩) (fun hHeld => ?_)
          have HPD := Aside0.mk (HP.out.next (Below.drew (Below.refl _ _)))
          clear HP HP1 x3 e1 q1 s3
          generalize WP.drew = WD at HPD hHeld ⊢
          obtain ⟨e1, q1⟩ := HPD.out.x.elemD kn hkn
          refine pure_ (i := 0) (N := some 100) (v := ?_) (a' := ?_) (bs_ 17 1) rfl rfl (by kernel_rfl) (fun _ _ _ h => h) (Or.inl ⟨by rfl, ?_⟩) ?_ ?_; rotate_left; (· intro w'; go_simp; with_reducible rfl); rotate_left; (· simp only [Act.put, N1_]; rfl)
          refine take_ (i := 1) (N := some 101) (v := ?_) (a' := ?_) (bs_ 17 3) rfl rfl (by kernel_rfl) (fun _ _ _ h => h) (Or.inl ⟨by rfl, ?_⟩) hHeld ?_ ?_; rotate_left; (· rintro w' ⟨s0, s1⟩; go_simp; with_reducible rfl); rotate_left; (· simp only [Act.put, N1_]; rfl)
          refine pure_ (i := 2) (N := some 102) (v := ?_) (a' := ?_) (bs_ 17 7) rfl rfl (by kernel_rfl) (fun _ _ _ h => h) (Or.inl ⟨by rfl, ?_⟩) ?_ ?_; rotate_left; (· intro w'; go_simp; with_reducible rfl); rotate_left; (· simp only [Act.put, N1_]; rfl)
          refine pure_ (i := 3) (N := some 103) (v := ?_) (a' := ?_) (bs_ 17 15) rfl rfl (by kernel_rfl) (fun _ _ _ h => h) (Or.inl ⟨by rfl, ?_⟩) ?_ ?_; rotate_left; (· intro w'; go_simp; with_reducible rfl); rotate_left; (· simp only [Act.put, N1_]; rfl)
          refine take_ (i := 4) (N := some 104) (v := ?_) (a' := ?_) (bs_ 17 31) rfl rfl (by kernel_rfl) (fun _ _ _ h => h) (Or.inl ⟨by rfl, ?_⟩) hHeld ?_ ?_; rotate_left; (· rintro w' ⟨s0, s1⟩; go_simp; with_reducible rfl); rotate_left; (· simp only [Act.put, N1_]; rfl)
          refine pure_ (i := 5) (N := some 105) (v := ?_) (a' := ?_) (bs_ 17 63) rfl rfl (by kernel_rfl) (fun _ _ _ h => h) (Or.inl ⟨by rfl, ?_⟩) ?_ ?_; rotate_left; (· intro w'; go_simp; with_reducible rfl); rotate_left; (· simp only [Act.put, N1_]; rfl)
          refine pure_ (i := 6) (N := some 106) (v := ?_) (a' := ?_) (bs_ 17 127) rfl rfl (by kernel_rfl) (fun _ _ _ h => h) (Or.inl ⟨by rfl, ?_⟩) ?_ ?_; rotate_left; (· intro w'; go_simp; with_reducible rfl); rotate_left; (· simp only [Act.put, N1_]; rfl)
          refine pure_ (i := 7) (N := some 107) (v := ?_) (a' := ?_) (bs_ 17 255) rfl rfl (by kernel_rfl) (fun _ _ _ h => h) (Or.inl ⟨by rfl, ?_⟩) ?_ ?_; rotate_left; (· intro w'; go_simp; with_reducible rfl); rotate_left; (· simp only [Act.put, N1_]; rfl)
          refine take_ (i := 8) (N := some 108) (v := ?_) (a' := ?_) (bs_ 17 511) rfl rfl (by kernel_rfl) (fun _ _ _ h => h) (Or.inl ⟨by rfl, ?_⟩) hHeld ?_ ?_; rotate_left; (· rintro w' ⟨s0, s1⟩; go_simp; with_reducible rfl); rotate_left; (· simp only [Act.put, N1_]; rfl)
          refine pure_ (i := 9) (N := some 109) (v := ?_) (a' := ?_) (bs_ 17 1023) rfl rfl (by kernel_rfl) (fun _ _ _ h => h) (Or.inl ⟨by rfl, ?_⟩) ?_ ?_; rotate_left; (· intro w'; go_simp; with_reducible rfl); rotate_left; (· simp only [Act.put, N1_]; rfl)
          refine pure_ (i := 10) (N := some 110) (v := ?_) (a' := ?_) (bs_ 17 2047) rfl rfl (by kernel_rfl) (fun _ _ _ h => h) (Or.inl ⟨by rfl, ?_⟩) ?_ ?_; rotate_left; (· intro w'; go_simp; with_reducible rfl); rotate_left; (· simp only [Act.put, N1_]; rfl)
          refine pure_ (i := 11) (N := some 111) (v := ?_) (a' := ?_) (bs_ 17 4095) rfl rfl (by kernel_rfl) (fun _ _ _ h => h) (Or.inl ⟨by rfl, ?_⟩) ?_ ?_; rotate_left; (· intro w'; go_simp; with_reducible rfl); rotate_left; (· simp only [Act.put, N1_]; rfl)
          refine pure_ (i := 12) (N := some 112) (v := ?_) (a' := ?_) (bs_ 17 8191) rfl rfl (by kernel_rfl) (fun _ _ _ h => h) (Or.inl ⟨by rfl, ?_⟩) ?_ ?_; rotate_left; (· intro w'; go_simp; with_reducible rfl); rotate_left; (· simp only [Act.put, N1_]; rfl)
          refine pure_ (i := 13) (N := some 113) (v := ?_) (a' := ?_) (bs_ 17 16383) rfl rfl (by kernel_rfl) (fun _ _ _ h => h) (Or.inl ⟨by rfl, ?_⟩) ?_ ?_; rotate_left; (· intro w'; go_simp; with_reducible rfl); rotate_left; (· simp only [Act.put, N1_]; rfl)
          refine pure_ (i := 14) (N := some 114) (v := ?_) (a' := ?_) (bs_ 17 32767) rfl rfl (by kernel_rfl) (fun _ _ _ h => h) (Or.inl ⟨by rfl, ?_⟩) ?_ ?_; rotate_left; (· intro w'; go_simp; with_reducible rfl); rotate_left; (· simp only [Act.put, N1_]; rfl)
          refine pure_ (i := 15) (N := some 115) (v := ?_) (a' := ?_) (bs_ 17 65535) rfl rfl (by kernel_rfl) (fun _ _ _ h => h) (Or.inl ⟨by rfl, ?_⟩) ?_ ?_; rotate_left; (· intro w'; go_simp; with_reducible rfl); rotate_left; (· simp only [Act.put, N1_]; rfl)
          refine last_ (i := 16) (N := none) (bs_ 17 131071) rfl rfl (by kernel_rfl) (by decide) (fun K hK => ?_)
          refine skip_ (w1 := ?_) (by rfl) rfl ?_ ?_; rotate_left; (· go_simp; rfl)
          refine hK.out _ _ ?_
          clear hK K
          refine done_ (by kernel_rfl) ?_
          have HP2 : Aside0 (MoAt w (WD.setCell ⟨gM, kn * 4 + 1, none⟩ (.int .i64 (mn 1000 ((rd_T54 ms kn).f1 + r)))) lo hi A c js A' c' ms SB pl ph MB (some ⟨gJ, 0, none⟩) c3 yj (some ⟨gM, 0, none⟩) c7 (ms.set kn (moreM r (rd_T54 ms kn))) HB lo hi) := ⟨by
            have h := HPD.out.putD HRR.out.1 HRR.out.2 kn hkn (mn 1000 ((rd_T54 ms kn).f1 + r))
            rw [show moreM r (rd_T54 ms kn) = ⟨(rd_T54 ms kn).f0, mn 1000 ((rd_T54 ms kn).f1 + r), (rd_T54 ms kn).f2, (rd_T54 ms kn).f3⟩ by rw [mn_min]; rfl]
            exact h⟩
          clear HPD e1 q1 hz hml0 hr7 hw2
          generalize (WD.setCell ⟨gM, kn * 4 + 1, none⟩ (.int .i64 (mn 1000 ((rd_T54 ms kn).f1 + r)))) = WQ at HP2 ⊢
          generalize ms.set kn (moreM r (rd_T54 ms kn)) = ym at HP2 HMM
          have s0 := cell_two HP2.out.x.en.net.blk 0 rfl
          go_wp2_with (fail)
          refine start_ (n := 12) (S := fun w' => w'.cell? ⟨w.heap.size, 0, none⟩ = some (.int .i64 lo) ∧ w'.cell? ⟨w.heap.size, 1, none⟩ = some (.int .i64 hi) ∧ w'.cell? ⟨w.heap.size, 2, none⟩ = some (.slice A js.length c) ∧ w'.cell? ⟨w.heap.size, 3, none⟩ = some (.slice A' ms.length c')) (ds := [10]) (bs_ 12 0) (by kernel_rfl) rfl rfl (⟨cell_two (HP2.out.x.en).net.blk 0 rfl, cell_two (HP2.out.x.en).net.blk 1 rfl, cell_two (HP2.out.x.en).net.blk 2 rfl, cell_two (HP2.out.x.en).net.blk 3 rfl⟩) (fun hHeld => ?_)
          have hp65 : p < 65536 := by omega
          have HW := Aside0.mk (HP2.out.next (Below.drew (Below.refl _ _)))
          clear HP2
          generalize WQ.drew = W0 at HW hHeld ⊢
          have HB0 : Aside0 (w.heap.size ≤ W0.heap.size) := ⟨HW.out.x.en.net.bel.size⟩
          have HBr := Aside0.mk (Below.refl W0.heap.size W0)
          have HS : Aside0 (∀ W', Below W0.heap.size W0 W' → (fun w' => w'.cell? ⟨w.heap.size, 0, none⟩ = some (.int .i64 lo) ∧ w'.cell? ⟨w.heap.size, 1, none⟩ = some (.int .i64 hi) ∧ w'.cell? ⟨w.heap.size, 2, none⟩ = some (.slice A js.length c) ∧ w'.cell? ⟨w.heap.size, 3, none⟩ = some (.slice A' ms.length c')) W') := ⟨fun W' hb => ⟨cell_two ((HW.out.next hb).x.en).net.blk 0 rfl, cell_two ((HW.out.next hb).x.en).net.blk 1 rfl, cell_two ((HW.out.next hb).x.en).net.blk 2 rfl, cell_two ((HW.out.next hb).x.en).net.blk 3 rfl⟩⟩
          have HWi : Aside0 (∀ W, NetAt w W w.heap.size lo hi A c js A' c' ms → Calls Try.prog 28 #[.agg #[.int .i64 lo, .int .i64 hi, .slice A js.length c, .slice A' ms.length c'], .int .i64 (p : Int)] W fun e w' => ∃ (B : Option Addr) (d : Nat), e = .returned (.agg #[.int .i64 lo, .int .i64 hi, .slice A js.length c, .slice B ms.length d]) ∧ Kd.C k54 w' B ms.length (withN p 0 ms) ∧ ms.length ≤ d ∧ Below W.heap.size W w') := ⟨fun W h => by
            have := rWith_any (A := A) (c := c) HOK.out (s := p) hp65 W h.mr hc'
            rwa [withN_len] at this⟩
          have HP3 : Aside0 (∀ W B d, NetAt w W w.heap.size lo hi A c js A' c' ms → Kd.C k54 W B ms.length (withN p 0 ms) → ms.length ≤ d → Calls Try.prog 14 #[.agg #[.int .i64 lo, .int .i64 hi, .slice A js.length c, .slice B ms.length d], .int .i64 (j : Int)] W fun e w' => e = .returned (.tuple #[.agg #[.int .i64 L2, .int .i64 H2], .int .i64 0]) ∧ Below W.heap.size W w') := ⟨fun W B d h1 h2 h3 => by
            have := Press_any lo hi A c js B d (withN p 0 ms) j W h1.jr hc (by rw [withN_len]; exact h2) (by rw [withN_len]; exact h3)
            rwa [withN_len, HT1.out] at this⟩
          have hpw := HPW.out
          have hpw2 : IntKind.i64.wrap ((2 : Int) ^ kn) = (p : Int) := by rw [i64_w]; exact hpw
          refine take_ (i := 0) (N := some 117) (v := ?_) (a' := ?_) (bs_ 12 1) rfl rfl (by kernel_rfl) (fun _ _ _ h => h) (Or.inl ⟨by rfl, ?_⟩) hHeld ?_ ?_; rotate_left; (· rintro w' ⟨s0, s1, s2, s3⟩; go_simp; with_reducible rfl); rotate_left; (· simp only [Act.put, N1_]; rfl)
          refine pure_ (i := 1) (N := some 118) (v := ?_) (a' := ?_) (bs_ 12 3) rfl rfl (by kernel_rfl) (fun _ _ _ h => h) (Or.inl ⟨by rfl, ?_⟩) ?_ ?_; rotate_left; (· intro w'; go_simp; with_reducible rfl); rotate_left; (· simp only [Act.put, N1_]; rfl)
          refine pure_ (i := 2) (N := some 119) (v := ?_) (a' := ?_) (bs_ 12 7) rfl rfl (by kernel_rfl) (fun _ _ _ h => h) (Or.inl ⟨by rfl, ?_⟩) ?_ ?_; rotate_left; (· intro w'; go_simp; with_reducible rfl); rotate_left; (· simp only [Act.put, N1_]; rfl)
          refine pure_ (i := 4) (N := some 121) (v := ?_) (a' := ?_) (bs_ 12 23) rfl rfl (by kernel_rfl) (fun _ _ _ h => h) (Or.inl ⟨by rfl, ?_⟩) ?_ ?_; rotate_left; (· intro w'; go_simp; with_reducible rfl); rotate_left; (· simp only [Act.put, N1_]; rfl)
          clear hHeld
          refine join_ (σ := (Option Addr) × (Nat) × (Nat)) 2 (bs_ 12 1023) (fun s => [(120, .agg #[.int .i64 lo, .int .i64 hi, .slice A js.length c, .slice s.1 ms.length s.2.1]), (122, .tuple #[.agg #[.int .i64 L2, .int .i64 H2], .int .i64 0]), (16, .pointer (some ⟨s.2.2, 0, none⟩)), (116, .tuple #[.agg #[.int .i64 L2, .int .i64 H2], .int .i64 0]), (123, .agg #[.int .i64 L2, .int .i64 H2]), (124, .int .i64 0)]) (fun s w' => (Kd.C k54 w' s.1 ms.length (withN p 0 ms) ∧ ms.length ≤ s.2.1) ∧ (w'.heap[s.2.2]? = some (.cells #[.int .i64 0, .int .i64 0] 23 (0, 0)) ∧ W0.heap.size ≤ s.2.2) ∧ Below W0.heap.size W0 w') ?_ ?_
          rotate_left
          · intro hCont
            refine two_ (i := 3) (j := 9) (Ni := some 120) (Nj := some 16) (bs_ 12 31) (bs_ 12 535) rfl rfl rfl rfl (by kernel_rfl) (by decide) (by decide) (fun K hK => ?_) (fun K hK => ?_)
            · skip
              refine goes_ Try.func28 (by kernel_rfl) rfl #[.agg #[.int .i64 lo, .int .i64 hi, .slice A js.length c, .slice A' ms.length c'], .int .i64 (p : Int)] (by rfl) rfl rfl (by (try simp only [LM_]); try rfl) ?_
              refine (HWi.out _ (HW.out.next HBr.out).x.en.net).mono ?_
              rintro e V1 ⟨B3_1, d3_1, rfl, hC, hd, hb⟩
              refine ⟨_, rfl, ?_⟩
              have HR3_1 := Aside0.mk (And.intro hC hd)
              clear hC hd
              have HB1 := Aside0.mk (bl_next' HBr.out hb)
              have hSn := HS.out _ HB1.out
              clear hb
              refine hK.out _ _ hSn (fun hHeld => ?_)
              clear hK K hSn hHeld
              refine norm_ (a' := ?_) ?_ ?_; rotate_left; (· show Act.put _ (some 120) _ = _; simp only [Act.put, N1_]; rfl)
              refine two_ (i := 5) (j := 9) (Ni := some 122) (Nj := some 16) (bs_ 12 63) (bs_ 12 543) rfl rfl rfl rfl (by kernel_rfl) (by decide) (by decide) (fun K hK => ?_) (fun K hK => ?_)
              · skip
                refine goes_ Try.func14 (by kernel_rfl) rfl #[.agg #[.int .i64 lo, .int .i64 hi, .slice A js.length c, .slice B3_1 ms.length d3_1], .int .i64 (j : Int)] (by rfl) rfl rfl (by (try simp only [LM_]); try rfl) ?_
                refine (HP3.out _ _ _ (HW.out.next HB1.out).x.en.net HR3_1.out.1 HR3_1.out.2).mono ?_
                rintro e V2 ⟨rfl, hb⟩
                refine ⟨_, rfl, ?_⟩
                have HB2 := Aside0.mk (bl_next' HB1.out hb)
                have HR3_2 := Aside0.mk (And.intro (Kd.C_below HR3_1.out.1 hb) HR3_1.out.2)
                have hSn := HS.out _ HB2.out
                clear hb
                refine hK.out _ _ hSn (fun hHeld => ?_)
                clear hK K hSn hHeld
                refine norm_ (a' := ?_) ?_ ?_; rotate_left; (· show Act.put _ (some 122) _ = _; simp only [Act.put, N1_]; rfl)
                refine pure_ (i := 6) (N := some 116) (v := ?_) (a' := ?_) (bs_ 12 127) rfl rfl (by kernel_rfl) (fun _ _ _ h => h) (Or.inl ⟨by rfl, ?_⟩) ?_ ?_; rotate_left; (· intro w'; go_simp; with_reducible rfl); rotate_left; (· simp only [Act.put, N1_]; rfl)
                refine pure_ (i := 7) (N := some 123) (v := ?_) (a' := ?_) (bs_ 12 255) rfl rfl (by kernel_rfl) (fun _ _ _ h => h) (Or.inl ⟨by rfl, ?_⟩) ?_ ?_; rotate_left; (· intro w'; go_simp; with_reducible rfl); rotate_left; (· simp only [Act.put, N1_]; rfl)
                refine pure_ (i := 8) (N := some 124) (v := ?_) (a' := ?_) (bs_ 12 511) rfl rfl (by kernel_rfl) (fun _ _ _ h => h) (Or.inl ⟨by rfl, ?_⟩) ?_ ?_; rotate_left; (· intro w'; go_simp; with_reducible rfl); rotate_left; (· simp only [Act.put, N1_]; rfl)
                refine one_ (i := 9) (N := some 16) (bs_ 12 1023) rfl rfl (by kernel_rfl) (by decide) (fun K hK => ?_)
                refine event_step (v := .pointer (some ⟨V2.heap.size, 0, none⟩)) (w1 := (V2.alloc (.cells #[.int .i64 0, .int .i64 0] 23))) (by rfl) (by first | (go_simp; done) | (go_simp; rfl)) ?_
                have HR9_3 := Aside0.mk (And.intro (blk_new V2 (.cells #[.int .i64 0, .int .i64 0] 23)) (HB2.out.size))
                have hb := below_alloc (Below.refl V2.heap.size V2) (.cells #[.int .i64 0, .int .i64 0] 23)
                generalize (V2.alloc (.cells #[.int .i64 0, .int .i64 0] 23)) = V3 at HR9_3 hb ⊢
                have HB3 := Aside0.mk (bl_next' HB2.out hb)
                have HR3_3 := Aside0.mk (And.intro (Kd.C_below HR3_2.out.1 hb) HR3_2.out.2)
                have hSn := HS.out _ HB3.out
                clear hb
                refine hK.out _ _ hSn (fun hHeld => ?_)
                clear hK K hSn hHeld
                refine norm_ (a' := ?_) ?_ ?_; rotate_left; (· show Act.put _ (some 16) _ = _; simp only [Act.put, N1_]; rfl)
                exact norm_ (by first | (simp only [putAll, Act.put, List.setIfInBounds_toArray, List.set_cons_zero, List.set_cons_succ]; done) | (simp only [putAll, Act.put, List.setIfInBounds_toArray, List.set_cons_zero, List.set_cons_succ]; rfl)) (hCont (B3_1, d3_1, V2.heap.size) _ (⟨HR3_3.out, HR9_3.out, HB3.out⟩))
              · skip
                refine event_step (v := .pointer (some ⟨V1.heap.size, 0, none⟩)) (w1 := (V1.alloc (.cells #[.int .i64 0, .int .i64 0] 23))) (by rfl) (by first | (go_simp; done) | (go_simp; rfl)) ?_
                have HR9_4 := Aside0.mk (And.intro (blk_new V1 (.cells #[.int .i64 0, .int .i64 0] 23)) (HB1.out.size))
                have hb := below_alloc (Below.refl V1.heap.size V1) (.cells #[.int .i64 0, .int .i64 0] 23)
                generalize (V1.alloc (.cells #[.int .i64 0, .int .i64 0] 23)) = V4 at HR9_4 hb ⊢
                have HB4 := Aside0.mk (bl_next' HB1.out hb)
                have HR3_4 := Aside0.mk (And.intro (Kd.C_below HR3_1.out.1 hb) HR3_1.out.2)
                have hSn := HS.out _ HB4.out
                clear hb
                refine hK.out _ _ hSn (fun hHeld => ?_)
                clear hK K hSn hHeld
                refine norm_ (a' := ?_) ?_ ?_; rotate_left; (· show Act.put _ (some 16) _ = _; simp only [Act.put, N1_]; rfl)
                refine one_ (i := 5) (N := some 122) (bs_ 12 575) rfl rfl (by kernel_rfl) (by decide) (fun K hK => ?_)
                refine goes_ Try.func14 (by kernel_rfl) rfl #[.agg #[.int .i64 lo, .int .i64 hi, .slice A js.length c, .slice B3_1 ms.length d3_1], .int .i64 (j : Int)] (by rfl) rfl rfl (by (try simp only [LM_]); try rfl) ?_
                refine (HP3.out _ _ _ (HW.out.next HB4.out).x.en.net HR3_4.out.1 HR3_4.out.2).mono ?_
                rintro e V5 ⟨rfl, hb⟩
                refine ⟨_, rfl, ?_⟩
                have HB5 := Aside0.mk (bl_next' HB4.out hb)
                have HR3_5 := Aside0.mk (And.intro (Kd.C_below HR3_4.out.1 hb) HR3_4.out.2)
                have HR9_5 := Aside0.mk (And.intro (blk_below HR9_4.out.1 hb) HR9_4.out.2)
                have hSn := HS.out _ HB5.out
                clear hb
                refine hK.out _ _ hSn (fun hHeld => ?_)
                clear hK K hSn hHeld
                refine norm_ (a' := ?_) ?_ ?_; rotate_left; (· show Act.put _ (some 122) _ = _; simp only [Act.put, N1_]; rfl)
                refine pure_ (i := 6) (N := some 116) (v := ?_) (a' := ?_) (bs_ 12 639) rfl rfl (by kernel_rfl) (fun _ _ _ h => h) (Or.inl ⟨by rfl, ?_⟩) ?_ ?_; rotate_left; (· intro w'; go_simp; with_reducible rfl); rotate_left; (· simp only [Act.put, N1_]; rfl)
                refine pure_ (i := 7) (N := some 123) (v := ?_) (a' := ?_) (bs_ 12 767) rfl rfl (by kernel_rfl) (fun _ _ _ h => h) (Or.inl ⟨by rfl, ?_⟩) ?_ ?_; rotate_left; (· intro w'; go_simp; with_reducible rfl); rotate_left; (· simp only [Act.put, N1_]; rfl)
                refine pure_ (i := 8) (N := some 124) (v := ?_) (a' := ?_) (bs_ 12 1023) rfl rfl (by kernel_rfl) (fun _ _ _ h => h) (Or.inl ⟨by rfl, ?_⟩) ?_ ?_; rotate_left; (· intro w'; go_simp; with_reducible rfl); rotate_left; (· simp only [Act.put, N1_]; rfl)
                exact norm_ (by first | (simp only [putAll, Act.put, List.setIfInBounds_toArray, List.set_cons_zero, List.set_cons_succ]; done) | (simp only [putAll, Act.put, List.setIfInBounds_toArray, List.set_cons_zero, List.set_cons_succ]; rfl)) (hCont (B3_1, d3_1, V1.heap.size) _ (⟨HR3_5.out, HR9_5.out, HB5.out⟩))
            · skip
              refine event_step (v := .pointer (some ⟨W0.heap.size, 0, none⟩)) (w1 := (W0.alloc (.cells #[.int .i64 0, .int .i64 0] 23))) (by rfl) (by first | (go_simp; done) | (go_simp; rfl)) ?_
              have HR9_6 := Aside0.mk (And.intro (blk_new W0 (.cells #[.int .i64 0, .int .i64 0] 23)) (HBr.out.size))
              have hb := below_alloc (Below.refl W0.heap.size W0) (.cells #[.int .i64 0, .int .i64 0] 23)
              generalize (W0.alloc (.cells #[.int .i64 0, .int .i64 0] 23)) = V6 at HR9_6 hb ⊢
              have HB6 := Aside0.mk (bl_next' HBr.out hb)
              have hSn := HS.out _ HB6.out
              clear hb
              refine hK.out _ _ hSn (fun hHeld => ?_)
              clear hK K hSn hHeld
              refine norm_ (a' := ?_) ?_ ?_; rotate_left; (· show Act.put _ (some 16) _ = _; simp only [Act.put, N1_]; rfl)
              refine one_ (i := 3) (N := some 120) (bs_ 12 543) rfl rfl (by kernel_rfl) (by decide) (fun K hK => ?_)
              refine goes_ Try.func28 (by kernel_rfl) rfl #[.agg #[.int .i64 lo, .int .i64 hi, .slice A js.length c, .slice A' ms.length c'], .int .i64 (p : Int)] (by rfl) rfl rfl (by (try simp only [LM_]); try rfl) ?_
              refine (HWi.out _ (HW.out.next HB6.out).x.en.net).mono ?_
              rintro e V7 ⟨B3_7, d3_7, rfl, hC, hd, hb⟩
              refine ⟨_, rfl, ?_⟩
              have HR3_7 := Aside0.mk (And.intro hC hd)
              clear hC hd
              have HB7 := Aside0.mk (bl_next' HB6.out hb)
              have HR9_7 := Aside0.mk (And.intro (blk_below HR9_6.out.1 hb) HR9_6.out.2)
              have hSn := HS.out _ HB7.out
              clear hb
              refine hK.out _ _ hSn (fun hHeld => ?_)
              clear hK K hSn hHeld
              refine norm_ (a' := ?_) ?_ ?_; rotate_left; (· show Act.put _ (some 120) _ = _; simp only [Act.put, N1_]; rfl)
              refine one_ (i := 5) (N := some 122) (bs_ 12 575) rfl rfl (by kernel_rfl) (by decide) (fun K hK => ?_)
              refine goes_ Try.func14 (by kernel_rfl) rfl #[.agg #[.int .i64 lo, .int .i64 hi, .slice A js.length c, .slice B3_7 ms.length d3_7], .int .i64 (j : Int)] (by rfl) rfl rfl (by (try simp only [LM_]); try rfl) ?_
              refine (HP3.out _ _ _ (HW.out.next HB7.out).x.en.net HR3_7.out.1 HR3_7.out.2).mono ?_
              rintro e V8 ⟨rfl, hb⟩
              refine ⟨_, rfl, ?_⟩
              have HB8 := Aside0.mk (bl_next' HB7.out hb)
              have HR9_8 := Aside0.mk (And.intro (blk_below HR9_7.out.1 hb) HR9_7.out.2)
              have HR3_8 := Aside0.mk (And.intro (Kd.C_below HR3_7.out.1 hb) HR3_7.out.2)
              have hSn := HS.out _ HB8.out
              clear hb
              refine hK.out _ _ hSn (fun hHeld => ?_)
              clear hK K hSn hHeld
              refine norm_ (a' := ?_) ?_ ?_; rotate_left; (· show Act.put _ (some 122) _ = _; simp only [Act.put, N1_]; rfl)
              refine pure_ (i := 6) (N := some 116) (v := ?_) (a' := ?_) (bs_ 12 639) rfl rfl (by kernel_rfl) (fun _ _ _ h => h) (Or.inl ⟨by rfl, ?_⟩) ?_ ?_; rotate_left; (· intro w'; go_simp; with_reducible rfl); rotate_left; (· simp only [Act.put, N1_]; rfl)
              refine pure_ (i := 7) (N := some 123) (v := ?_) (a' := ?_) (bs_ 12 767) rfl rfl (by kernel_rfl) (fun _ _ _ h => h) (Or.inl ⟨by rfl, ?_⟩) ?_ ?_; rotate_left; (· intro w'; go_simp; with_reducible rfl); rotate_left; (· simp only [Act.put, N1_]; rfl)
              refine pure_ (i := 8) (N := some 124) (v := ?_) (a' := ?_) (bs_ 12 1023) rfl rfl (by kernel_rfl) (fun _ _ _ h => h) (Or.inl ⟨by rfl, ?_⟩) ?_ ?_; rotate_left; (· intro w'; go_simp; with_reducible rfl); rotate_left; (· simp only [Act.put, N1_]; rfl)
              exact norm_ (by first | (simp only [putAll, Act.put, List.setIfInBounds_toArray, List.set_cons_zero, List.set_cons_succ]; done) | (simp only [putAll, Act.put, List.setIfInBounds_toArray, List.set_cons_zero, List.set_cons_succ]; rfl)) (hCont (B3_7, d3_7, W0.heap.size) _ (⟨HR3_8.out, HR9_8.out, HB8.out⟩))
          rintro ⟨Bw, dw, TB⟩ WJ ⟨hR3, hR9, hb⟩
          have HR3 := Aside0.mk hR3
          have HR9 := Aside0.mk hR9
          have HBJ := Aside0.mk hb
          clear hb HBr hR3 hR9
          refine norm_ (a' := ?_) ?_ ?_; rotate_left; (· simp only [putAll, Act.put, List.setIfInBounds_toArray, List.set_cons_zero, List.set_cons_succ]; rfl)
          have t0 := cell_two HR9.out.1 0 rfl
          have t1 := cell_two HR9.out.1 1 rfl
          have tf0 := blk_frozen HR9.out.1 0
          have tf1 := blk_frozen HR9.out.1 1
          refine last_ (i := 10) (N := none) (bs_ 12 2047) rfl rfl (by kernel_rfl) (by decide) (fun K hK => ?_)
          refine skip_ (w1 := ?_) (by rfl) rfl ?_ ?_; rotate_left; (· go_simp; rfl)
          refine hK.out _ _ ?_
          clear hK K
          refine pure_ (i := 11) (N := some 17) (v := ?_) (a' := ?_) (bs_ 12 4095) rfl rfl (by kernel_rfl) (fun _ _ _ h => h) (Or.inl ⟨by rfl, ?_⟩) ?_ ?_; rotate_left; (· intro w'; go_simp; with_reducible rfl); rotate_left; (· simp only [Act.put, N1_]; rfl)
          refine done_ (by kernel_rfl) ?_
          have HQ := Aside0.mk (HW.out.next ((HBJ.out.setCell (p := ⟨TB, 0, none⟩) HR9.out.2 (.int .i64 L2)).setCell (p := ⟨TB, 1, none⟩) HR9.out.2 (.int .i64 H2)))
          have TQ := Aside0.mk (blk_put (blk_put HR9.out.1 0 (.int .i64 L2) rfl) 1 (.int .i64 H2) rfl)
          generalize ((WJ.setCell ⟨TB, 0, none⟩ (.int .i64 L2)).setCell ⟨TB, 1, none⟩ (.int .i64 H2)) = WR at HQ TQ ⊢
          clear HW HBJ HR9 HR3 HS HB0 HWi HP3 t0 t1 tf0 tf1 s0 hpw hpw2
          have t0 := cell_two TQ.out 0 rfl
          have t1 := cell_two TQ.out 1 rfl
          have u0 := cell_two HQ.out.x.en.sp 0 rfl
          have u1 := cell_two HQ.out.x.en.sp 1 rfl
          have dl : decide (L2 < pl) = false := decide_eq_false (by omega)
          have dh : decide (H2 < ph) = false := decide_eq_false (by omega)
          go_wp2_with (fail)
          go_meet
          case rel => exact ⟨ym, HQ, HMM⟩
      case rest =>
        obtain ⟨ym, HQ, HMM⟩ := hcut
        obtain ⟨La, Ha, hA1, hA2, hA3⟩ := HMo.out ym HMM.out
        obtain ⟨Lb, Hb, hB1, hB2, hB3⟩ := HHi.out
        have HA1 := Aside0.mk hA1
        have HB1 := Aside0.mk hB1
        clear hA1 hB1 HTw HMo HHi HP s3
        have da : decide (pl < La) = false := decide_eq_false (by omega)
        have da2 : decide (ph < Ha) = false := decide_eq_false (by omega)
        have db : decide (Lb < pl) = false := decide_eq_false (by omega)
        have db2 : decide (Hb < ph) = false := decide_eq_false (by omega)
        have HPm : Aside0 (∀ W a_ b_, MoAt w W lo hi A c js A' c' ms SB pl ph MB (some ⟨gJ, 0, none⟩) c3 yj A7 c7 ym HB a_ b_ → Calls Try.prog 14 #[.agg #[.int .i64 lo, .int .i64 hi, .slice (some ⟨gJ, 0, none⟩) js.length c3, .slice A7 ms.length c7], .int .i64 (j : Int)] W fun e w' => e = .returned (.tuple #[.agg #[.int .i64 La, .int .i64 Ha], .int .i64 0]) ∧ Below W.heap.size W w') := ⟨fun W a_ b_ h => by
          obtain ⟨h1, h2, h3⟩ := Kd.R_reads' h.x.jr
          obtain ⟨h4, h5, h6⟩ := Kd.R_reads' h.x.mr
          have := Press_any lo hi (some ⟨gJ, 0, none⟩) c3 yj A7 c7 ym j W h3 (by omega) h6 (by omega)
          rw [HA1.out, ← h1, ← h4] at this
          exact this⟩
        have HPh : Aside0 (∀ W, NetAt w W w.heap.size lo hi A c js A' c' ms → Calls Try.prog 14 #[.agg #[.int .i64 (mn 1099511627776 (lo + b)), .int .i64 (mn 1099511627776 (hi + b)), .slice A js.length c, .slice A' ms.length c'], .int .i64 (j : Int)] W fun e w' => e = .returned (.tuple #[.agg #[.int .i64 Lb, .int .i64 Hb], .int .i64 0]) ∧ Below W.heap.size W w') := ⟨fun W h => by
          have := Press_any (mn 1099511627776 (lo + b)) (mn 1099511627776 (hi + b)) A c js A' c' ms j W h.jr hc h.mr hc'
          rwa [HB1.out] at this⟩
        have s0 := cell_two HQ.out.x.en.net.blk 0 rfl
        have s1 := cell_two HQ.out.x.en.net.blk 1 rfl
        have h0 := cell_two HQ.out.hb 0 rfl
        have h1 := cell_two HQ.out.hb 1 rfl
        have hf0 := blk_frozen HQ.out.hb 0
        have hf1 := blk_frozen HQ.out.hb 1
        go_upto_region 24 with (first
          | (go_at_call 14; have hgu := H20.out; clear hgu; (with_reducible refine (HPh.out _ H20.out.x.en.net).mono ?_); rintro e W21 ⟨rfl, hb⟩; have H21 := Aside0.mk (((H20.out.next hb).next (below_alloc (Below.refl _ _) (.cells #[.int .i64 Lb, .int .i64 Hb] 23))).x.en); have QB := Aside0.mk (blk_new W21 (.cells #[.int .i64 Lb, .int .i64 Hb] 23)); have QA2 := Aside0.mk (blk_alloc (blk_below QA.out hb) (.cells #[.int .i64 Lb, .int .i64 Hb] 23)); clear hb h0 h1 h2 h3; have a0 := cell_two QA2.out 0 rfl; have a1 := cell_two QA2.out 1 rfl; have b0 := cell_two QB.out 0 rfl; have b1 := cell_two QB.out 1 rfl; have t0 := cell_two H21.out.sp 0 rfl; have t1 := cell_two H21.out.sp 1 rfl)
          | (go_at_call 14; (with_reducible refine (HPm.out _ _ _ H19.out).mono ?_); rintro e W20 ⟨rfl, hb⟩; have H20 := Aside0.mk ((H19.out.next hb).next (below_alloc (Below.refl _ _) (.cells #[.int .i64 La, .int .i64 Ha] 23))); have QA := Aside0.mk (blk_new W20 (.cells #[.int .i64 La, .int .i64 Ha] 23)); clear hb h0 h1 hf0 hf1 m0 m1 m2 m3; have h0 := cell_two H20.out.hb 0 rfl; have h1 := cell_two H20.out.hb 1 rfl; have h2 := cell_two H20.out.hb 2 rfl; have h3 := cell_two H20.out.hb 3 rfl)
          | (go_at_call 27; refine (gasworkslaw06_span.calls (mn 1099511627776 (lo + b)) (mn 1099511627776 (hi + b)) (mn 1099511627776 (lo + b)) (mn 1099511627776 (hi + b)) _ rfl).mono ?_; rintro e W19 ⟨rfl, hb⟩; have H18 := Aside0.mk (HQ.out.next hb); have H19 := Aside0.mk (H18.out.high HRR.out.1 HRR.out.2 (mn 1099511627776 (lo + b)) (mn 1099511627776 (hi + b))); clear hb s0 s1 h0 h1 hf0 hf1; have h0 := cell_two H18.out.hb 0 rfl; have h1 := cell_two H18.out.hb 1 rfl; have hf0 := blk_frozen H18.out.hb 0; have hf1 := blk_frozen H18.out.hb 1; have m0 := cell_two H19.out.x.xb 0 rfl; have m1 := cell_two H19.out.x.xb 1 rfl; have m2 := cell_two H19.out.x.xb 2 rfl; have m3 := cell_two H19.out.x.xb 3 rfl))
        clear QA QB QA2 a0 a1 b0 b1 t0 t1 H18 H19 H20 HQ da da2 db db2
        generalize W21.alloc (.cells #[.int .i64 Lb, .int .i64 Hb] 23) = WB at H21 ⊢
        have s0 := cell_two H21.out.net.blk 0 rfl
        have s1 := cell_two H21.out.net.blk 1 rfl
        have s2 := cell_two H21.out.net.blk 2 rfl
        have s3 := cell_two H21.out.net.blk 3 rfl
        have HC := Aside0.mk (H21.out.next (below_alloc (Below.refl _ _) (.cells #[.int .i64 lo, .int .i64 hi, .slice A js.length c, .slice A' ms.length c'] 27)))
        have XC := Aside0.mk (blk_new WB (.cells #[.int .i64 lo, .int .i64 hi, .slice A js.length c, .slice A' ms.length c'] 27))
        have hcg := blk_lt H21.out.net.blk
        go_upto_region 25 with (fail)
        clear s0 s1 s2 s3 H21
        generalize WB.alloc (.cells #[.int .i64 lo, .int .i64 hi, .slice A js.length c, .slice A' ms.length c'] 27) = WC at HC XC ⊢
        generalize WB.heap.size = CB at XC hcg ⊢
        have HL0 := Aside0.mk (HC.out.next (below_alloc (Below.refl _ _) (.cells #[] 50)))
        have XL := Aside0.mk (blk_alloc XC.out (.cells #[] 50))
        have RL := Aside0.mk (lit_R k50 WC w.heap.size 50 HC.out.net.bel.size)
        have s2 := cell_two HL0.out.net.blk 2 rfl
        go_wp2_with ((with_reducible refine gate_builtin (b := .append) (xs := #[.tmp 204, .tmp 206]) rfl ?_); at_builtin; refine copy_list k50 w.heap.size WC.heap.size rfl (.tmp 204) (.tmp 206) 24 50 (.agg #[(.int .i64 0), (.int .i64 0), (.int .i64 0), (.int .i64 0), (.int .i64 0)]) 40 rfl Try.underlying24 info50 rfl (by decide) (by omega) js A c rfl rfl RL.out HL0.out.net.jr (fun _ x cs h => M_of_K50 x cs h) HL0.out.net.bel.size hln50 ?_; intro A9 c9 W25 hR hb; have HR9 := Aside0.mk hR; have H25 := Aside0.mk (HL0.out.next hb); have X25 := Aside0.mk (blk_below XL.out hb); clear hR hb s2; have c2 := cell_two X25.out 2 rfl; have cf2 := blk_frozen X25.out 2)
        have HF := Aside0.mk (CAt.fill H25.out HRR.out.1 HRR.out.2 X25.out hcg HR9.out)
        clear H25 X25 HR9 c2 cf2 HL0 XL RL HC XC
        generalize W25.setCell ⟨CB, 2, none⟩ (.slice A9 js.length c9) = WF at HF ⊢
        obtain ⟨gC, eC⟩ : ∃ gC, A9 = some ⟨gC, 0, none⟩ := by
          obtain ⟨g, cap, e, _⟩ := Kd.R_form HF.out.jr (by omega)
          injection e with e1
          exact ⟨g, e1⟩
        subst eC
        go_loopw [23] (fun i wr => ∃ (k : Nat) (yc : List S50), i = .int .i64 (k : Int) ∧ k ≤ js.length ∧ Aside0 (CAt w wr lo hi A c js A' c' ms SB pl ph CB (some ⟨gC, 0, none⟩) c9 yc) ∧ Aside0 (CutTo b ms js yc k)) (fun i _ => js.length - (intOf i).toNat)
        case atStart => exact ⟨0, js, rfl, by omega, HF, ⟨cut_0 b ms js⟩⟩
        case round =>
          clear HF
          obtain ⟨i, yc, rfl, hi2, HI, HCt⟩ := hrel
          have x2 := cell_two HI.out.xb 2 rfl
          by_cases hlt : i < js.length
          · have hlt' : decide ((i : Int) < (js.length : Int)) = true := decide_eq_true (by omega)
            have i0 : (0 : Int) ≤ (i : Int) := Int.natCast_nonneg i
            have i1 : (i : Int) < (js.length : Int) := by omega
            obtain ⟨st, hst⟩ : ∃ st, statusP ms i = st := ⟨_, rfl⟩
            have HFd : Aside0 (∀ W, NetAt w W w.heap.size lo hi A c js A' c' ms → Calls Try.prog 12 #[.agg #[.int .i64 lo, .int .i64 hi, .slice A js.length c, .slice A' ms.length c'], .int .i64 (i : Int)] W fun e w' => e = .returned (.tuple #[.int .i64 st, .int .i64 0]) ∧ Below W.heap.size W w') := ⟨fun W h => by
              have := Fed_any lo hi A c js A' c' ms i W h.jr hc h.mr hc'
              rwa [fed_at HOK.out hlt, hst] at this⟩
            have HSt := Aside0.mk hst
            clear hst
            have s0 := cell_two HI.out.en.net.blk 0 rfl
            have s1 := cell_two HI.out.en.net.blk 1 rfl
            have s2 := cell_two HI.out.en.net.blk 2 rfl
            have s3 := cell_two HI.out.en.net.blk 3 rfl
            by_cases hs0 : st = 0
            · have ds0 : (st == 0) = true := by rw [hs0]; rfl
              have HS0 : Aside0 (statusP ms i = 0) := ⟨by rw [HSt.out, hs0]⟩
              clear hs0
              go_wp2_with (go_at_call 12; (with_reducible refine (HFd.out _ HI.out.en.net).mono ?_); rintro e W29 ⟨rfl, hb⟩; have HI2 := Aside0.mk (HI.out.next hb); clear hb s0 s1 s2 s3 x2; have x2 := cell_two HI2.out.xb 2 rfl)
              refine start_ (n := 17) (S := fun w' => w'.cell? ⟨CB, 2, none⟩ = some (.slice (some ⟨gC, 0, none⟩) js.length c9)) (ds := [16]) (bs_ 17 0) (by kernel_rfl) rfl rfl (x2) (fun hHeld => ?_)
              have HI3 := Aside0.mk (HI2.out.next (Below.drew (Below.refl _ _)))
              have hwb2 : IntKind.i64.wrap b = b := by rw [i64_w]; exact hwb
              refine pure_ (i := 0) (N := some 226) (v := ?_) (a' := ?_) (bs_ 17 1) rfl rfl (by kernel_rfl) (fun _ _ _ h => h) (Or.inl ⟨by rfl, ?_⟩) ?_ ?_; rotate_left; (· intro w'; go_simp; with_reducible rfl); rotate_left; (· simp only [Act.put, N1_]; rfl)
              refine take_ (i := 1) (N := some 227) (v := ?_) (a' := ?_) (bs_ 17 3) rfl rfl (by kernel_rfl) (fun _ _ _ h => h) (Or.inl ⟨by rfl, ?_⟩) hHeld ?_ ?_; rotate_left; (· rintro w' s0; go_simp; with_reducible rfl); rotate_left; (· simp only [Act.put, N1_]; rfl)
              refine pure_ (i := 2) (N := some 228) (v := ?_) (a' := ?_) (bs_ 17 7) rfl rfl (by kernel_rfl) (fun _ _ _ h => h) (Or.inl ⟨by rfl, ?_⟩) ?_ ?_; rotate_left; (· intro w'; go_simp; with_reducible rfl); rotate_left; (· simp only [Act.put, N1_]; rfl)
              refine pure_ (i := 3) (N := some 229) (v := ?_) (a' := ?_) (bs_ 17 15) rfl rfl (by kernel_rfl) (fun _ _ _ h => h) (Or.inl ⟨by rfl, ?_⟩) ?_ ?_; rotate_left; (· intro w'; go_simp; with_reducible rfl); rotate_left; (· simp only [Act.put, N1_]; rfl)
              refine take_ (i := 4) (N := some 230) (v := ?_) (a' := ?_) (bs_ 17 31) rfl rfl (by kernel_rfl) (fun _ _ _ h => h) (Or.inl ⟨by rfl, ?_⟩) hHeld ?_ ?_; rotate_left; (· rintro w' s0; go_simp; with_reducible rfl); rotate_left; (· simp only [Act.put, N1_]; rfl)
              refine pure_ (i := 5) (N := some 231) (v := ?_) (a' := ?_) (bs_ 17 63) rfl rfl (by kernel_rfl) (fun _ _ _ h => h) (Or.inl ⟨by rfl, ?_⟩) ?_ ?_; rotate_left; (· intro w'; go_simp; with_reducible rfl); rotate_left; (· simp only [Act.put, N1_]; rfl)
              refine pure_ (i := 6) (N := some 232) (v := ?_) (a' := ?_) (bs_ 17 127) rfl rfl (by kernel_rfl) (fun _ _ _ h => h) (Or.inl ⟨by rfl, ?_⟩) ?_ ?_; rotate_left; (· intro w'; go_simp; with_reducible rfl); rotate_left; (· simp only [Act.put, N1_]; rfl)
              refine pure_ (i := 7) (N := some 233) (v := ?_) (a' := ?_) (bs_ 17 255) rfl rfl (by kernel_rfl) (fun _ _ _ h => h) (Or.inl ⟨by rfl, ?_⟩) ?_ ?_; rotate_left; (· intro w'; go_simp; with_reducible rfl); rotate_left; (· simp only [Act.put, N1_]; rfl)
              refine pure_ (i := 9) (N := some 235) (v := ?_) (a' := ?_) (bs_ 17 767) rfl rfl (by kernel_rfl) (fun _ _ _ h => h) (Or.inl ⟨by rfl, ?_⟩) ?_ ?_; rotate_left; (· intro w'; go_simp; with_reducible rfl); rotate_left; (· simp only [Act.put, N1_]; rfl)
              refine pure_ (i := 10) (N := some 236) (v := ?_) (a' := ?_) (bs_ 17 1791) rfl rfl (by kernel_rfl) (fun _ _ _ h => h) (Or.inl ⟨by rfl, ?_⟩) ?_ ?_; rotate_left; (· intro w'; go_simp; with_reducible rfl); rotate_left; (· simp only [Act.put, N1_]; rfl)
              refine one_ (i := 8) (N := some 234) (bs_ 17 2047) rfl rfl (by kernel_rfl) (by decide) (fun K hK => ?_)
              refine goes_ Try.func27 (by kernel_rfl) rfl #[.int .i64 0, .int .i64 b] (by rfl) rfl rfl (by (try simp only [LM_]); try rfl) ?_
              refine (gasworkslaw06_span.calls 0 b 0 b _ rfl).mono ?_
              rintro e W33 ⟨rfl, hb⟩
              refine ⟨_, rfl, ?_⟩
              have HZ := Aside0.mk (HI3.out.next hb)
              clear hb hHeld
              obtain ⟨⟨d0, d1, d4⟩, q0, q1, q4⟩ := HZ.out.elem i hlt
              refine hK.out _ _ (cell_two HZ.out.xb 2 rfl) (fun hHeld => ?_)
              clear hK K
              refine norm_ (a' := ?_) ?_ ?_; rotate_left; (· show Act.put _ (some 234) _ = _; simp only [Act.put, N1_]; rfl)
              refine pure_ (i := 11) (N := some 237) (v := ?_) (a' := ?_) (bs_ 17 4095) rfl rfl (by kernel_rfl) (fun _ _ _ h => h) (Or.inl ⟨by rfl, ?_⟩) ?_ ?_; rotate_left; (· intro w'; go_simp; with_reducible rfl); rotate_left; (· simp only [Act.put, N1_]; rfl)
              refine pure_ (i := 12) (N := some 238) (v := ?_) (a' := ?_) (bs_ 17 8191) rfl rfl (by kernel_rfl) (fun _ _ _ h => h) (Or.inl ⟨by rfl, ?_⟩) ?_ ?_; rotate_left; (· intro w'; go_simp; with_reducible rfl); rotate_left; (· simp only [Act.put, N1_]; rfl)
              refine one_ (i := 13) (N := none) (bs_ 17 16383) rfl rfl (by kernel_rfl) (by decide) (fun K hK => ?_)
              refine skip_ (w1 := ?_) (by rfl) rfl ?_ ?_; rotate_left; (· go_simp; rfl)
              have HZ3 := Aside0.mk (HZ.out.put2 HRR.out.1 HRR.out.2 i hlt 0 b)
              obtain ⟨⟨_, _, g4⟩, _, _, r4⟩ := HZ3.out.elem i hlt
              clear hHeld
              refine hK.out _ _ (cell_two HZ3.out.xb 2 rfl) (fun hHeld => ?_)
              clear hK K
              refine pure_ (i := 14) (N := some 239) (v := ?_) (a' := ?_) (bs_ 17 32767) rfl rfl (by kernel_rfl) (fun _ _ _ h => h) (Or.inl ⟨by rfl, ?_⟩) ?_ ?_; rotate_left; (· intro w'; go_simp; with_reducible rfl); rotate_left; (· simp only [Act.put, N1_]; rfl)
              refine pure_ (i := 15) (N := some 240) (v := ?_) (a' := ?_) (bs_ 17 65535) rfl rfl (by kernel_rfl) (fun _ _ _ h => h) (Or.inl ⟨by rfl, ?_⟩) ?_ ?_; rotate_left; (· intro w'; go_simp; with_reducible rfl); rotate_left; (· simp only [Act.put, N1_]; rfl)
              refine last_ (i := 16) (N := none) (bs_ 17 131071) rfl rfl (by kernel_rfl) (by decide) (fun K hK => ?_)
              refine skip_ (w1 := ?_) (by rfl) rfl ?_ ?_; rotate_left; (· go_simp; rfl)
              refine hK.out _ _ ?_
              clear hK K
              refine done_ (by kernel_rfl) ?_
              go_wp2_with (fail)
              go_roundw
              case rel => exact ⟨i + 1, _, by go_num, by omega, ⟨HZ.out.put HRR.out.1 HRR.out.2 i hlt 0 b b⟩, ⟨cut_yes HCt.out hlt HS0.out⟩⟩
              case measure => simp [intOf]; omega
            · have ds0 : (st == 0) = false := by rw [beq_eq_false_iff_ne]; exact hs0
              have HS0 : Aside0 (statusP ms i ≠ 0) := ⟨by rw [HSt.out]; exact hs0⟩
              clear hs0
              go_wp2_with (go_at_call 12; (with_reducible refine (HFd.out _ HI.out.en.net).mono ?_); rintro e W29 ⟨rfl, hb⟩; have HI2 := Aside0.mk (HI.out.next hb); clear hb s0 s1 s2 s3 x2; have x2 := cell_two HI2.out.xb 2 rfl)
              go_roundw
              case rel => exact ⟨i + 1, yc, by go_num, by omega, HI2, ⟨cut_no HCt.out HS0.out⟩⟩
              case measure => simp [intOf]; omega
          · have hlt' : decide ((i : Int) < (js.length : Int)) = false := decide_eq_false (by omega)
            have HCu2 : Aside0 (pressS lo hi yc ms j = (pl, ph, 0)) := ⟨HCu.out yc (by have h := HCt.out; rw [(by omega : i = js.length)] at h; exact h)⟩
            have HPc : Aside0 (∀ W, CAt w W lo hi A c js A' c' ms SB pl ph CB (some ⟨gC, 0, none⟩) c9 yc → Calls Try.prog 14 #[.agg #[.int .i64 lo, .int .i64 hi, .slice (some ⟨gC, 0, none⟩) js.length c9, .slice A' ms.length c'], .int .i64 (j : Int)] W fun e w' => e = .returned (.tuple #[.agg #[.int .i64 pl, .int .i64 ph], .int .i64 0]) ∧ Below W.heap.size W w') := ⟨fun W h => by
              obtain ⟨h1, h2, h3⟩ := Kd.R_reads' h.jr
              have := Press_any lo hi (some ⟨gC, 0, none⟩) c9 yc A' c' ms j W h3 (by omega) h.en.net.mr hc'
              rw [HCu2.out, ← h1] at this
              exact this⟩
            have x0 := cell_two HI.out.xb 0 rfl
            have x1 := cell_two HI.out.xb 1 rfl
            have x2 := cell_two HI.out.xb 2 rfl
            have x3 := cell_two HI.out.xb 3 rfl
            have heq := fun W => eq23 W pl ph
            go_wp2_with (first
              | (go_at_call 14; (with_reducible refine (HPc.out _ HI.out).mono ?_); rintro e W34 ⟨rfl, hb⟩; have H34 := Aside0.mk ((HI.out.en.next hb).next (below_alloc (Below.refl _ _) (.cells #[.int .i64 pl, .int .i64 ph] 23))); have Q34 := Aside0.mk (blk_new W34 (.cells #[.int .i64 pl, .int .i64 ph] 23)); clear hb x0 x1 x2 x3; have y0 := cell_two Q34.out 0 rfl; have y1 := cell_two Q34.out 1 rfl; have t0 := cell_two H34.out.sp 0 rfl; have t1 := cell_two H34.out.sp 1 rfl)
              | (go_at_call 11; (with_reducible refine (awake_any _).mono ?_); rintro e W35 ⟨rfl, hb⟩; have HB9 := Aside0.mk (bl_next' H34.out.net.bel hb); clear hb))
            go_ret
            exact ⟨rfl, HB9.out⟩
end Go.Proofs.Ytbjinkkmakhbaaa.Print
