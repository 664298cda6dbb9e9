/- BalanceSame: the law, walked (there is no truth). -/
import Derived.Test.YtalgbihpidpblaaMF
namespace Go.Proofs.Ytalgbihpidpblaa.Print
open Go.RowKit Go.Shelf Go.Proofs.YtalgbihpidpblaaW.PrintWords Go.Proofs.YtalgbihpidpblaaW.PrintLast Go.Proofs.YtalgbihpidpblaaW.PrintMore
set_option linter.unusedVariables false
set_option linter.unusedSimpArgs false

set_option maxHeartbeats 4000000 in
set_option maxRecDepth 100000 in
theorem same_state (pl : Int) (A : Option Addr) (c : Nat) (l : List S47) (a1 a2 : Int) (w : World) (hr : Kd.C k47 w A l.length l) (hc : l.length ≤ c) (h : l.length < 16) (hp : isPlantB pl l = true) (K K2 K3 : List S45) (wl : List Int) (nw : Nat) (ha : 0 ≤ a1 ∧ a1 ≤ 255) (ha2 : 0 ≤ a2 ∧ a2 ≤ 255) (z x y : Int) (hz : a2 % pl = z) (hx : a1 % (pl - 1) = x) (hy : (z + 1 + x) % pl = y)
    (hk : K.length = 0) (hk2 : K2.length = 0) (hk3 : K3.length = 0) (hwl : wl.length = nw) (hnw : nw ≤ 1000000) (ht : tightS pl l = (K, 6)) (hw : wrongS pl l = (wl, 0)) (ht2 : tightS pl (turnL l a1) = (K2, 6)) (hw2 : wrongS pl (turnL l a1) = (wl, 0)) (ht3 : tightS pl (l ++ [⟨z, y, ⟨0, 0⟩⟩]) = (K3, 6)) :
    Calls Try.prog 8 #[.agg #[.int .i64 pl, .slice A l.length c], .int .u8 a1, .int .u8 a2] w (BackSame w) := by
  have d1 : decide ((16 : Int) ≤ (l.length : Int)) = false := decide_eq_false (by omega)
  have pl2 := (plant_of pl l hp).1
  have pl8 := (plant_of pl l hp).2.1
  have z0 : 0 ≤ z := by rw [← hz]; exact Int.emod_nonneg _ (by omega)
  have z1 : z < pl := by rw [← hz]; exact Int.emod_lt_of_pos _ (by omega)
  have x0 : 0 ≤ x := by rw [← hx]; exact Int.emod_nonneg _ (by omega)
  have x1 : x < pl := by have := Int.emod_lt_of_pos a1 (show (0 : Int) < pl - 1 by omega); omega
  have HZ2 : Aside0 ((wrap64 a2).tmod pl = z) := ⟨by rw [show wrap64 a2 = a2 by unfold wrap64; omega, Int.tmod_eq_emod_of_nonneg (by omega), hz]⟩
  have HZ3 : Aside0 (a2 % pl = z) := ⟨hz⟩
  have HE3 : Aside0 (wrap64 a1 = a1) := ⟨by unfold wrap64; omega⟩
  have HE4 : Aside0 (wrap64 (z + 1) = z + 1) := ⟨by unfold wrap64; omega⟩
  have HE5 : Aside0 (wrap64 (pl - 1) = pl - 1) := ⟨by unfold wrap64; omega⟩
  have HE6 : Aside0 (a1.tmod (pl - 1) = x) := ⟨by rw [Int.tmod_eq_emod_of_nonneg (by omega), hx]⟩
  have HE7 : Aside0 (wrap64 (z + 1 + x) = z + 1 + x) := ⟨by unfold wrap64; omega⟩
  have HE8 : Aside0 ((z + 1 + x).tmod pl = y) := ⟨by rw [Int.tmod_eq_emod_of_nonneg (by omega), hy]⟩
  have n1 : ¬ pl = 0 := by omega
  have n2 : ¬ pl - 1 = 0 := by omega
  have hln0 : (0 + l.length) * 32 ≤ 140737488355328 := by omega
  have hln1 : (l.length + 1) * 32 ≤ 140737488355328 := by omega
  clear hz hx hy
  have HT := Aside0.mk ht
  have HT2 := Aside0.mk ht2
  have HT3 := Aside0.mk ht3
  have HW2o := Aside0.mk hw2
  have HKl := Aside0.mk hk
  have HKl2 := Aside0.mk hk2
  have HKl3 := Aside0.mk hk3
  have HWl := Aside0.mk hwl
  have HW := Aside0.mk hw
  have HR := Aside0.mk hr
  have HPl := Aside0.mk hp
  clear hr hp ht hw ht2 ht3 hw2 hk hk2 hk3 hwl
  go_enter Try.func8, Try.ntmps8
  go_wp2_with (first
    | (go_at_call 13; refine (tight_len HT.out rfl HKl.out (Kd.C_below HR.out (below_alloc (Below.refl _ _) _)) hc).mono ?_; rintro e W1 ⟨Ak, ck, rfl, hR, hck, hb⟩; have HCK := Aside0.mk hck; clear hck; have HK1 := Aside0.mk (Kd.R_lower hR (below_alloc (Below.refl w.heap.size w) (.cells #[.int .i64 pl, .slice A l.length c] 24)).size); have HB1 := Aside0.mk (bl_next (below_alloc (Below.refl w.heap.size w) _) hb); have BP1 := Aside0.mk (blk_below (blk_new w (.cells #[.int .i64 pl, .slice A l.length c] 24)) hb); have s0 := cell_two BP1.out 0 rfl; have s1 := cell_two BP1.out 1 rfl; clear hb hR)
    | (go_at_call 19; refine (wrong_len HW.out rfl HWl.out (Kd.C_below HR.out HB1.out) hc).mono ?_; rintro e W2 ⟨Aw, cw, rfl, hR, hcw, hb⟩; have HK2 := Aside0.mk (Kd.R_below HK1.out hb); have HW2 := Aside0.mk (Kd.R_lower hR HB1.out.size); have HCWo := Aside0.mk hcw; clear hcw; have HB2 := Aside0.mk (bl_next HB1.out hb); have BP2 := Aside0.mk (blk_below BP1.out hb); clear hb hR s0 s1; have s0 := cell_two BP2.out 0 rfl; have s1 := cell_two BP2.out 1 rfl)
    | (go_at_call 23; refine (plant_call4 HPl.out (Kd.C_below HR.out HB2.out) hc).mono ?_; rintro e W3 ⟨rfl, hb⟩; have HK3 := Aside0.mk (Kd.R_below HK2.out hb); have HW3 := Aside0.mk (Kd.R_below HW2.out hb); have BP3 := Aside0.mk (blk_below BP2.out hb); have HB3 := Aside0.mk (bl_next HB2.out hb); clear hb s0 s1; have s0 := cell_two BP3.out 0 rfl; have s1 := cell_two BP3.out 1 rfl))
  go_cut [12, 13] (fun v12 v13 wc => ∃ (TB MB : Nat), v12 = .pointer (some ⟨TB, 0, none⟩) ∧ v13 = .pointer (some ⟨MB, 0, none⟩) ∧ ((TB = W3.heap.size ∧ MB = W3.heap.size + 1) ∨ (TB = W3.heap.size + 1 ∧ MB = W3.heap.size)) ∧ Aside0 (wc = ((W3.alloc (.cells #[.int .i64 pl, .slice A l.length c] 24)).alloc (.cells #[.int .i64 pl, .slice A l.length c] 24)).drew))
  case first =>
    go_region_held3 (fun w' => w'.cell? ⟨w.heap.size, 0, none⟩ = some (.int .i64 pl) ∧ w'.cell? ⟨w.heap.size, 1, none⟩ = some (.slice A l.length c)) (go_keep) ((fail))
    all_goals
      go_wp2_with (fail)
      go_meet
      case rel => first | exact ⟨_, _, rfl, rfl, .inl ⟨rfl, rfl⟩, ⟨rfl⟩⟩ | exact ⟨_, _, rfl, rfl, .inr ⟨rfl, rfl⟩, ⟨rfl⟩⟩
  case rest =>
    obtain ⟨TB, MB, rfl, rfl, hTM, HV⟩ := hcut
    have HS : Aside0 (∀ V, V = wc.setCell ⟨TB, 1, none⟩ (.slice none 0 0) → SameAt w V w.heap.size TB MB pl A c l K (.slice Ak 0 ck) wl (.slice Aw nw cw) [] (.slice none 0 0) (.slice A l.length c)) := ⟨fun V hv => same_start V BP3.out HK3.out HW3.out HR.out HB3.out hTM (by rw [hv, HV.out])⟩
    have bT : wc.heap[TB]? = some (.cells #[.int .i64 pl, .slice A l.length c] 24 (0, 0)) := by
      rw [HV.out]
      rcases hTM with ⟨rfl, rfl⟩ | ⟨rfl, rfl⟩
      · exact blk_drew (blk_alloc (blk_new W3 _) _)
      · refine blk_drew ?_
        have := blk_new (W3.alloc (.cells #[.int .i64 pl, .slice A l.length c] 24)) (.cells #[.int .i64 pl, .slice A l.length c] 24)
        simpa using this
    have t0 := cell_two bT 0 rfl
    have t1 := cell_two bT 1 rfl
    have tf := blk_frozen bT 1
    clear s0 s1 BP3 HK3 HW3 HB3 HV bT
    go_wp2_with (fail)
    generalize hg : wc.setCell ⟨TB, 1, none⟩ (.slice none 0 0) = V
    have H0 := Aside0.mk (HS.out V hg.symm)
    clear hg t0 t1 tf HS hTM
    go_loopw [14] (fun iv wr => SameLoop w wr TB MB pl A c l K (.slice Ak 0 ck) wl (.slice Aw nw cw) a1 iv) (fun iv _ => l.length - (intOf iv).toNat)
    case atStart => exact ⟨0, _, rfl, by omega, H0⟩
    case round =>
      obtain ⟨i, tv, rfl, hi, HS⟩ := hrel
      have tl : ((turnL l a1).take i).length = i := by rw [List.length_take, turnL_len]; omega
      obtain ⟨At, ct, rfl⟩ := Kd.R_slice HS.out.kt
      by_cases hlt : i < l.length
      · have d2 : decide ((i : Int) < (l.length : Int)) = true := decide_eq_true (by omega)
        obtain ⟨j, hj⟩ := Int.eq_ofNat_of_zero_le (Int.emod_nonneg ((i : Int) + a1) (show (l.length : Int) ≠ 0 by omega))
        have jl : (j : Int) < (l.length : Int) := by rw [← hj]; exact Int.emod_lt_of_pos _ (by omega)
        obtain ⟨aL, e, g2, g3, g4, g5⟩ := at_T47 HS.out.cc j (by omega) jl
        cases e
        obtain ⟨T, hTd⟩ : ∃ T, T = (turnL l a1).take i := ⟨_, rfl⟩
        rw [← hTd] at HS tl
        have HTd := Aside0.mk hTd
        clear hTd
        have HAT : Aside0 (∀ W : World, W.heap[TB]? = some (.cells #[.int .i64 pl, .slice At T.length ct] 24 (0, 0)) → W.heap[w.heap.size]? = some (.cells #[.int .i64 pl, .slice (some aL) l.length c] 24 (0, 0)) → Kd.C k47 W (some aL) l.length l → W.cell? ⟨TB, 1, none⟩ = some (.slice At T.length ct) ∧ W.cell? ⟨w.heap.size, 1, none⟩ = some (.slice (some aL) l.length c) ∧ W.cell? (aL.add (j * 4)) = some (.int .i64 (rd_T47 l j).f0) ∧ W.cell? ⟨(aL.add (j * 4)).block, (aL.add (j * 4)).off + 1, none⟩ = some (.int .i64 (rd_T47 l j).f1) ∧ W.cell? ⟨(aL.add (j * 4)).block, (aL.add (j * 4)).off + 2, none⟩ = some (.int .i64 (rd_T47 l j).f2.f0) ∧ W.cell? ⟨(aL.add (j * 4)).block, (aL.add (j * 4)).off + 3, none⟩ = some (.int .i64 (rd_T47 l j).f2.f1)) := ⟨fun W x1 x2 x3 => by
          obtain ⟨aL', e, g2, g3, g4, g5⟩ := at_T47 x3 j (by omega) jl
          cases e
          exact ⟨cell_two x1 1 rfl, cell_two x2 1 rfl, g2, g3, g4, g5⟩⟩
        have hln : (T.length + 1) * 32 ≤ 140737488355328 := by omega
        have HTL := Aside0.mk tl
        clear tl
        have hmod : (wrap64 ((i : Int) + wrap64 a1)).tmod (l.length : Int) = (j : Int) := by
          have e1 : wrap64 a1 = a1 := by unfold wrap64; omega
          have e2 : wrap64 ((i : Int) + a1) = (i : Int) + a1 := by unfold wrap64; omega
          rw [e1, e2, Int.tmod_eq_emod_of_nonneg (by omega), hj]
        have hnil : l ≠ [] := fun e => by rw [e] at hlt; simp at hlt
        have j0 : (0 : Int) ≤ (j : Int) := Int.natCast_nonneg j
        clear g2 g3 g4 g5
        go_wp2_with (fail)
        refine start_ (n := 16) (S := fun w' => w'.cell? ⟨TB, 1, none⟩ = some (.slice At T.length ct) ∧ w'.cell? ⟨w.heap.size, 1, none⟩ = some (.slice (some aL) l.length c) ∧ w'.cell? (aL.add (j * 4)) = some (.int .i64 (rd_T47 l j).f0) ∧ w'.cell? ⟨(aL.add (j * 4)).block, (aL.add (j * 4)).off + 1, none⟩ = some (.int .i64 (rd_T47 l j).f1) ∧ w'.cell? ⟨(aL.add (j * 4)).block, (aL.add (j * 4)).off + 2, none⟩ = some (.int .i64 (rd_T47 l j).f2.f0) ∧ w'.cell? ⟨(aL.add (j * 4)).block, (aL.add (j * 4)).off + 3, none⟩ = some (.int .i64 (rd_T47 l j).f2.f1)) (ds := [15]) (bs_ 16 0) (by kernel_rfl) rfl rfl (HAT.out _ (same_drew HS.out).bt (same_drew HS.out).bp (same_drew HS.out).cc) (fun hHeld => ?_)
        have H1 := Aside0.mk (same_drew HS.out)
        clear HS
        generalize wr.drew = W1r at H1 hHeld ⊢
        refine pure_ (i := 0) (N := some 69) (v := ?_) (a' := ?_) (bs_ 16 1) rfl rfl (by kernel_rfl) (fun _ _ _ h => h) (Or.inl ⟨by rfl, ?_⟩) ?_ ?_; rotate_left; (· intro w'; go_simp; with_reducible rfl); rotate_left; (· simp only [Act.put, N1_]; rfl)
        refine take_ (i := 1) (N := some 70) (v := ?_) (a' := ?_) (bs_ 16 3) rfl rfl (by kernel_rfl) (fun _ _ _ h => h) (Or.inl ⟨by rfl, ?_⟩) hHeld ?_ ?_; rotate_left; (· rintro w' ⟨s0, s1, s2, s3, s4, s5⟩; go_simp; with_reducible rfl); rotate_left; (· simp only [Act.put, N1_]; rfl)
        refine pure_ (i := 2) (N := some 71) (v := ?_) (a' := ?_) (bs_ 16 7) rfl rfl (by kernel_rfl) (fun _ _ _ h => h) (Or.inl ⟨by rfl, ?_⟩) ?_ ?_; rotate_left; (· intro w'; go_simp; with_reducible rfl); rotate_left; (· simp only [Act.put, N1_]; rfl)
        refine take_ (i := 3) (N := some 72) (v := ?_) (a' := ?_) (bs_ 16 15) rfl rfl (by kernel_rfl) (fun _ _ _ h => h) (Or.inl ⟨by rfl, ?_⟩) hHeld ?_ ?_; rotate_left; (· rintro w' ⟨s0, s1, s2, s3, s4, s5⟩; go_simp; with_reducible rfl); rotate_left; (· simp only [Act.put, N1_]; rfl)
        refine pure_ (i := 4) (N := some 73) (v := ?_) (a' := ?_) (bs_ 16 31) rfl rfl (by kernel_rfl) (fun _ _ _ h => h) (Or.inl ⟨by rfl, ?_⟩) ?_ ?_; rotate_left; (· intro w'; go_simp; with_reducible rfl); rotate_left; (· simp only [Act.put, N1_]; rfl)
        refine pure_ (i := 5) (N := some 74) (v := ?_) (a' := ?_) (bs_ 16 63) rfl rfl (by kernel_rfl) (fun _ _ _ h => h) (Or.inl ⟨by rfl, ?_⟩) ?_ ?_; rotate_left; (· intro w'; go_simp; with_reducible rfl); rotate_left; (· simp only [Act.put, N1_]; rfl)
        refine pure_ (i := 6) (N := some 75) (v := ?_) (a' := ?_) (bs_ 16 127) rfl rfl (by kernel_rfl) (fun _ _ _ h => h) (Or.inl ⟨by rfl, ?_⟩) ?_ ?_; rotate_left; (· intro w'; go_simp; with_reducible rfl); rotate_left; (· simp only [Act.put, N1_]; rfl)
        refine pure_ (i := 7) (N := some 76) (v := ?_) (a' := ?_) (bs_ 16 255) rfl rfl (by kernel_rfl) (fun _ _ _ h => h) (Or.inl ⟨by rfl, ?_⟩) ?_ ?_; rotate_left; (· intro w'; go_simp; with_reducible rfl); rotate_left; (· simp only [Act.put, N1_]; rfl)
        refine pure_ (i := 8) (N := some 77) (v := ?_) (a' := ?_) (bs_ 16 511) rfl rfl (by kernel_rfl) (fun _ _ _ h => h) (Or.inl ⟨by rfl, ?_⟩) ?_ ?_; rotate_left; (· intro w'; go_simp; with_reducible rfl); rotate_left; (· simp only [Act.put, N1_]; rfl)
        refine pure_ (i := 9) (N := some 78) (v := ?_) (a' := ?_) (bs_ 16 1023) rfl rfl (by kernel_rfl) (fun _ _ _ h => h) (Or.inl ⟨by rfl, ?_⟩) ?_ ?_; rotate_left; (· intro w'; go_simp; with_reducible rfl); rotate_left; (· simp only [Act.put, N1_]; rfl)
        refine pure_ (i := 10) (N := some 79) (v := ?_) (a' := ?_) (bs_ 16 2047) rfl rfl (by kernel_rfl) (fun _ _ _ h => h) (Or.inl ⟨by rfl, ?_⟩) ?_ ?_; rotate_left; (· intro w'; go_simp; with_reducible rfl); rotate_left; (· simp only [Act.put, N1_]; rfl)
        refine take_ (i := 11) (N := some 80) (v := ?_) (a' := ?_) (bs_ 16 4095) rfl rfl (by kernel_rfl) (fun _ _ _ h => h) (Or.inl ⟨by rfl, ?_⟩) hHeld ?_ ?_; rotate_left; (· rintro w' ⟨s0, s1, s2, s3, s4, s5⟩; go_simp; with_reducible rfl); rotate_left; (· simp only [Act.put, N1_]; rfl)
        refine one_ (i := 12) (N := some 81) (bs_ 16 8191) rfl rfl (by kernel_rfl) (by decide) (fun K hK => ?_)
        go_simp
        clear hHeld
        have H6 := Aside0.mk (same_below H1.out (below_alloc (Below.refl _ _) (.cells #[.int .i64 (rd_T47 l j).f0, .int .i64 (rd_T47 l j).f1, .int .i64 (rd_T47 l j).f2.f0, .int .i64 (rd_T47 l j).f2.f1] 47)))
        refine hK.out _ _ (HAT.out _ H6.out.bt H6.out.bp H6.out.cc) (fun hHeld => ?_)
        clear hK K
        refine one_ (i := 13) (N := some 82) (bs_ 16 16383) rfl rfl (by kernel_rfl) (by decide) (fun K hK => ?_)
        refine Kd.R_append_step k47 (w0 := w) w.heap.size (by rfl) (.tmp 70) (.tmp 81) 22 47 (.agg #[(.int .i64 0), (.int .i64 0), (.int .i64 0), (.int .i64 0)]) 32 (by rfl) Try.underlying22 info47 rfl (by decide) (by omega) (.slice At T.length ct) T (rd_T47 l j) [.int .i64 (rd_T47 l j).f0, .int .i64 (rd_T47 l j).f1, .int .i64 (rd_T47 l j).f2.f0, .int .i64 (rd_T47 l j).f2.f1] (fun _ => True) (fun _ => False) rfl rfl (k47_mkM _ _ _ (rd_T47 l j)) (fun _ hk => hk.elim) (fun _ _ => trivial) H1.out.kt H1.out.bel H1.out.bel.size hln ?_
        intro v1 w1 ho hb hg hat
        obtain ⟨A1, c1, rfl⟩ := Kd.R_slice ho
        have H7 := Aside0.mk (same_grow H1.out ho hb hg HR.out)
        simp only [List.length_append, List.length_cons, List.length_nil, Nat.zero_add] at H7
        have hS7 := HAT.out w1 (blk_grown H1.out.bt hg (Kd.R_ne H1.out.kt H1.out.bt (by decide))) (blk_grown H1.out.bp hg (Kd.R_ne H1.out.kt H1.out.bp (by decide))) (Kd.C_below HR.out hb)
        have pf := blk_frozen (blk_grown H1.out.bt hg (Kd.R_ne H1.out.kt H1.out.bt (by decide))) 1
        clear ho hb hg hat H6 hHeld
        refine hK.out _ _ hS7 (fun hHeld => ?_)
        clear hS7
        clear hK K
        refine norm_ (a' := ?_) ?_ ?_; rotate_left; (· show Act.put _ (some 82) _ = _; simp only [Act.put, N1_]; rfl)
        refine pure_ (i := 14) (N := some 83) (v := ?_) (a' := ?_) (bs_ 16 32767) rfl rfl (by kernel_rfl) (fun _ _ _ h => h) (Or.inl ⟨by rfl, ?_⟩) ?_ ?_; rotate_left; (· intro w'; go_simp; with_reducible rfl); rotate_left; (· simp only [Act.put, N1_]; rfl)
        refine last_ (i := 15) (N := none) (bs_ 16 65535) rfl rfl (by kernel_rfl) (by decide) (fun K hK => ?_)
        refine skip_ (w1 := ?_) (by rfl) rfl ?_ ?_; rotate_left; (· go_simp; rfl)
        refine hK.out _ _ ?_
        clear hK K
        refine done_ (by kernel_rfl) ?_
        clear pf hHeld
        generalize w1.setCell ⟨TB, 1, none⟩ (.slice A1 (T.length + 1) c1) = W7 at H7 ⊢
        go_wp2_with (fail)
        go_roundw
        case rel => exact same_next HTd.out HTL.out hlt hj H7.out
        case measure => simp [intOf]; omega
      · have d2 : decide ((i : Int) < (l.length : Int)) = false := decide_eq_false (by omega)
        have ei : (turnL l a1).take i = turnL l a1 := List.take_of_length_le (by rw [turnL_len]; omega)
        have HL := Aside0.mk (turnL_len l a1)
        obtain ⟨U, hU⟩ : ∃ U, U = turnL l a1 := ⟨_, rfl⟩
        rw [ei, ← hU, show U.length = l.length by rw [hU]; exact turnL_len l a1] at HS
        rw [← hU] at HL HT2 HW2o
        clear ei hU tl
        have b0 := cell_two HS.out.bp 0 rfl
        have b1 := cell_two HS.out.bp 1 rfl
        have e2 : (wrap64 a2).tmod pl = z := HZ2.out
        have e2' : a2 % pl = z := HZ3.out
        go_wp2_with (fail)
        have b2 := cell_two HS.out.bm 1 rfl
        have e3 : wrap64 a1 = a1 := HE3.out
        have e4 : wrap64 (z + 1) = z + 1 := HE4.out
        have e5 : wrap64 (pl - 1) = pl - 1 := HE5.out
        have e6 : a1.tmod (pl - 1) = x := HE6.out
        have e7 : wrap64 (z + 1 + x) = z + 1 + x := HE7.out
        have e8 : (z + 1 + x).tmod pl = y := HE8.out
        have H0d := Aside0.mk (same_drew HS.out)
        have HC0 := Aside0.mk (same_drew HS.out).cc
        have HB0 := Aside0.mk (Below.refl wr.drew.heap.size wr.drew)
        have HAT : Aside0 (∀ W : World, Below wr.drew.heap.size wr.drew W → W.cell? ⟨w.heap.size, 0, none⟩ = some (.int .i64 pl) ∧ W.cell? ⟨w.heap.size, 1, none⟩ = some (.slice A l.length c) ∧ W.cell? ⟨MB, 1, none⟩ = some (.slice A l.length c)) := ⟨fun W hb => ⟨cell_two (blk_below H0d.out.bp hb) 0 rfl, cell_two (blk_below H0d.out.bp hb) 1 rfl, cell_two (blk_below H0d.out.bm hb) 1 rfl⟩⟩
        clear HS
        refine start_ (n := 22) (S := fun w' => w'.cell? ⟨w.heap.size, 0, none⟩ = some (.int .i64 pl) ∧ w'.cell? ⟨w.heap.size, 1, none⟩ = some (.slice A l.length c) ∧ w'.cell? ⟨MB, 1, none⟩ = some (.slice A l.length c)) (ds := [21]) (bs_ 22 0) (by kernel_rfl) rfl rfl ⟨b0, b1, b2⟩ (fun hHeld => ?_)
        generalize wr.drew = W0 at H0d HC0 HB0 HAT hHeld ⊢
        refine pure_ (i := 1) (N := some 90) (v := ?_) (a' := ?_) (bs_ 22 2) rfl rfl (by kernel_rfl) (fun _ _ _ h => h) (Or.inl ⟨by rfl, ?_⟩) ?_ ?_; rotate_left; (· intro w'; go_simp; with_reducible rfl); rotate_left; (· simp only [Act.put, N1_]; rfl)
        refine take_ (i := 2) (N := some 91) (v := ?_) (a' := ?_) (bs_ 22 6) rfl rfl (by kernel_rfl) (fun _ _ _ h => h) (Or.inl ⟨by rfl, ?_⟩) hHeld ?_ ?_; rotate_left; (· rintro w' ⟨s0, s1, s2⟩; go_simp; with_reducible rfl); rotate_left; (· simp only [Act.put, N1_]; rfl)
        refine pure_ (i := 4) (N := some 93) (v := ?_) (a' := ?_) (bs_ 22 22) rfl rfl (by kernel_rfl) (fun _ _ _ h => h) (Or.inl ⟨by rfl, ?_⟩) ?_ ?_; rotate_left; (· intro w'; go_simp; with_reducible rfl); rotate_left; (· simp only [Act.put, N1_]; rfl)
        refine pure_ (i := 5) (N := some 94) (v := ?_) (a' := ?_) (bs_ 22 54) rfl rfl (by kernel_rfl) (fun _ _ _ h => h) (Or.inl ⟨by rfl, ?_⟩) ?_ ?_; rotate_left; (· intro w'; go_simp; with_reducible rfl); rotate_left; (· simp only [Act.put, N1_]; rfl)
        refine pure_ (i := 6) (N := some 95) (v := ?_) (a' := ?_) (bs_ 22 118) rfl rfl (by kernel_rfl) (fun _ _ _ h => h) (Or.inl ⟨by rfl, ?_⟩) ?_ ?_; rotate_left; (· intro w'; go_simp; with_reducible rfl); rotate_left; (· simp only [Act.put, N1_]; rfl)
        refine pure_ (i := 7) (N := some 96) (v := ?_) (a' := ?_) (bs_ 22 246) rfl rfl (by kernel_rfl) (fun _ _ _ h => h) (Or.inl ⟨by rfl, ?_⟩) ?_ ?_; rotate_left; (· intro w'; go_simp; with_reducible rfl); rotate_left; (· simp only [Act.put, N1_]; rfl)
        refine pure_ (i := 8) (N := some 97) (v := ?_) (a' := ?_) (bs_ 22 502) rfl rfl (by kernel_rfl) (fun _ _ _ h => h) (Or.inl ⟨by rfl, ?_⟩) ?_ ?_; rotate_left; (· intro w'; go_simp; with_reducible rfl); rotate_left; (· simp only [Act.put, N1_]; rfl)
        refine pure_ (i := 9) (N := some 98) (v := ?_) (a' := ?_) (bs_ 22 1014) rfl rfl (by kernel_rfl) (fun _ _ _ h => h) (Or.inl ⟨by rfl, ?_⟩) ?_ ?_; rotate_left; (· intro w'; go_simp; with_reducible rfl); rotate_left; (· simp only [Act.put, N1_]; rfl)
        refine take_ (i := 10) (N := some 99) (v := ?_) (a' := ?_) (bs_ 22 2038) rfl rfl (by kernel_rfl) (fun _ _ _ h => h) (Or.inl ⟨by rfl, ?_⟩) hHeld ?_ ?_; rotate_left; (· rintro w' ⟨s0, s1, s2⟩; go_simp; with_reducible rfl); rotate_left; (· simp only [Act.put, N1_]; rfl)
        refine pure_ (i := 11) (N := some 100) (v := ?_) (a' := ?_) (bs_ 22 4086) rfl rfl (by kernel_rfl) (fun _ _ _ h => h) (Or.inl ⟨by rfl, ?_⟩) ?_ ?_; rotate_left; (· intro w'; go_simp; with_reducible rfl); rotate_left; (· simp only [Act.put, N1_]; rfl)
        refine pure_ (i := 12) (N := some 101) (v := ?_) (a' := ?_) (bs_ 22 8182) rfl rfl (by kernel_rfl) (fun _ _ _ h => h) (Or.inl ⟨by rfl, ?_⟩) ?_ ?_; rotate_left; (· intro w'; go_simp; with_reducible rfl); rotate_left; (· simp only [Act.put, N1_]; rfl)
        refine pure_ (i := 13) (N := some 102) (v := ?_) (a' := ?_) (bs_ 22 16374) rfl rfl (by kernel_rfl) (fun _ _ _ h => h) (Or.inl ⟨by rfl, ?_⟩) ?_ ?_; rotate_left; (· intro w'; go_simp; with_reducible rfl); rotate_left; (· simp only [Act.put, N1_]; rfl)
        refine pure_ (i := 14) (N := some 103) (v := ?_) (a' := ?_) (bs_ 22 32758) rfl rfl (by kernel_rfl) (fun _ _ _ h => h) (Or.inl ⟨by rfl, ?_⟩) ?_ ?_; rotate_left; (· intro w'; go_simp; with_reducible rfl); rotate_left; (· simp only [Act.put, N1_]; rfl)
        refine take_ (i := 15) (N := some 104) (v := ?_) (a' := ?_) (bs_ 22 65526) rfl rfl (by kernel_rfl) (fun _ _ _ h => h) (Or.inl ⟨by rfl, ?_⟩) hHeld ?_ ?_; rotate_left; (· rintro w' ⟨s0, s1, s2⟩; go_simp; with_reducible rfl); rotate_left; (· simp only [Act.put, N1_]; rfl)
        refine pure_ (i := 16) (N := some 105) (v := ?_) (a' := ?_) (bs_ 22 131062) rfl rfl (by kernel_rfl) (fun _ _ _ h => h) (Or.inl ⟨by rfl, ?_⟩) ?_ ?_; rotate_left; (· intro w'; go_simp; with_reducible rfl); rotate_left; (· simp only [Act.put, N1_]; rfl)
        refine pure_ (i := 17) (N := some 106) (v := ?_) (a' := ?_) (bs_ 22 262134) rfl rfl (by kernel_rfl) (fun _ _ _ h => h) (Or.inl ⟨by rfl, ?_⟩) ?_ ?_; rotate_left; (· intro w'; go_simp; with_reducible rfl); rotate_left; (· simp only [Act.put, N1_]; rfl)
        clear hHeld
        refine join_ (σ := Value × Value × Value) 3 (bs_ 22 524287) (fun s => [(89, s.1), (92, s.2.1), (107, s.2.2)]) (fun s w' => Kd.R k47 47 w' W0.heap.size (fun _ => True) s.2.1 l ∧ Kd.R k47 47 w' W0.heap.size (fun _ => True) s.2.2 [⟨z, y, ⟨0, 0⟩⟩] ∧ Below W0.heap.size W0 w') ?_ ?_
        rotate_left
        · intro hCont
          refine two_ (i := 0) (j := 18) (Ni := some 89) (Nj := some 107) (bs_ 22 262135) (bs_ 22 524278) rfl rfl rfl rfl (by kernel_rfl) (by decide) (by decide) (fun K hK => ?_) (fun K hK => ?_)
          · skip
            refine Kd.R_lit_step k47 (w0 := W0) W0.heap.size 47 (by rfl) (N := 89) (by rfl) (xs := ([] : List S47)) (inner := []) (ok := fun _ => True) (okp := fun _ => False) ?hr (Reps.none _ _) (fun _ hk => hk.elim) trivial HB0.out HB0.out.size (by simp) ?_; (case hr => first | (go_simp; done) | (go_simp; rfl))
            intro v89 W1 ho hb hg hat
            have HE := Aside0.mk ho
            have HB1 := Aside0.mk hb
            clear ho hb hg hat
            refine hK.out _ _ (HAT.out _ HB1.out) (fun hHeld => ?_)
            clear hK K
            refine norm_ (a' := ?_) ?_ ?_; rotate_left; (· show Act.put _ (some 89) _ = _; simp only [Act.put, N1_]; rfl)
            refine two_ (i := 3) (j := 18) (Ni := some 92) (Nj := some 107) (bs_ 22 262143) (bs_ 22 524279) rfl rfl rfl rfl (by kernel_rfl) (by decide) (by decide) (fun K hK => ?_) (fun K hK => ?_)
            · skip
              refine Kd.R_append_rows_step k47 (w0 := W0) W0.heap.size (by rfl) (.tmp 89) (.tmp 91) 22 47 (.agg #[(.int .i64 0), (.int .i64 0), (.int .i64 0), (.int .i64 0)]) 32 (by rfl) Try.underlying22 info47 rfl (by decide) (by omega) v89 [] l A l.length c (fun _ => True) (fun _ => False) rfl rfl (Kd.R_mono HE.out (fun _ _ => trivial)) (Kd.C_below HC0.out HB1.out) (fun x cs hK => M_of_K47 x cs hK) (fun _ hk => hk.elim) (fun _ _ => trivial) HB1.out HB1.out.size hln0 ?_
              intro v92 W2 ho hb hg hat
              rw [List.nil_append] at ho
              have HF := Aside0.mk ho
              have HB2 := Aside0.mk hb
              clear ho hb hg hat hHeld
              refine hK.out _ _ (HAT.out _ HB2.out) (fun hHeld => ?_)
              clear hK K
              refine norm_ (a' := ?_) ?_ ?_; rotate_left; (· show Act.put _ (some 92) _ = _; simp only [Act.put, N1_]; rfl)
              refine one_ (i := 18) (N := some 107) (bs_ 22 524287) rfl rfl (by kernel_rfl) (by decide) (fun K hK => ?_)
              refine Kd.R_lit_step k47 (w0 := W0) W0.heap.size 47 (by rfl) (N := 107) (by rfl) (xs := [(⟨z, y, ⟨0, 0⟩⟩ : S47)]) (inner := [.int .i64 z, .int .i64 y, .int .i64 0, .int .i64 0]) (ok := fun k => k = W2.heap.size) (okp := fun _ => False) ?hr (reps47_one _ _ _ _) (fun _ hk => hk.elim) rfl HB2.out HB2.out.size (by simp) ?_; (case hr => first | (go_simp; done) | (go_simp; rfl))
              intro v107 W3 ho hb hg hat
              have HG := Aside0.mk ho
              have HB3 := Aside0.mk hb
              have HF3 := Aside0.mk (Kd.R_grown HF.out hg (fun _ _ => by simp))
              clear ho hb hg hat hHeld
              refine hK.out _ _ (HAT.out _ HB3.out) (fun hHeld => ?_)
              clear hK K
              refine norm_ (a' := ?_) ?_ ?_; rotate_left; (· show Act.put _ (some 107) _ = _; simp only [Act.put, N1_]; rfl)
              exact norm_ (by first | (simp only [putAll, Act.put, List.setIfInBounds_toArray, List.set_cons_zero, List.set_cons_succ]; done) | (simp only [putAll, Act.put, List.setIfInBounds_toArray, List.set_cons_zero, List.set_cons_succ]; rfl)) (hCont (v89, v92, v107) _ ⟨HF3.out, Kd.R_mono HG.out (fun _ _ => trivial), HB3.out⟩)
            · skip
              refine Kd.R_lit_step k47 (w0 := W0) W0.heap.size 47 (by rfl) (N := 107) (by rfl) (xs := [(⟨z, y, ⟨0, 0⟩⟩ : S47)]) (inner := [.int .i64 z, .int .i64 y, .int .i64 0, .int .i64 0]) (ok := fun k => k = W1.heap.size) (okp := fun _ => False) ?hr (reps47_one _ _ _ _) (fun _ hk => hk.elim) rfl HB1.out HB1.out.size (by simp) ?_; (case hr => first | (go_simp; done) | (go_simp; rfl))
              intro v107 W2 ho hb hg hat
              have HG := Aside0.mk ho
              have HB2 := Aside0.mk hb
              have HE2 := Aside0.mk (Kd.R_grown HE.out hg (fun _ _ => by simp))
              clear ho hb hg hat hHeld
              refine hK.out _ _ (HAT.out _ HB2.out) (fun hHeld => ?_)
              clear hK K
              refine norm_ (a' := ?_) ?_ ?_; rotate_left; (· show Act.put _ (some 107) _ = _; simp only [Act.put, N1_]; rfl)
              refine one_ (i := 3) (N := some 92) (bs_ 22 524287) rfl rfl (by kernel_rfl) (by decide) (fun K hK => ?_)
              refine Kd.R_append_rows_step k47 (w0 := W0) W0.heap.size (by rfl) (.tmp 89) (.tmp 91) 22 47 (.agg #[(.int .i64 0), (.int .i64 0), (.int .i64 0), (.int .i64 0)]) 32 (by rfl) Try.underlying22 info47 rfl (by decide) (by omega) v89 [] l A l.length c (fun _ => True) (fun _ => False) rfl rfl (Kd.R_mono HE2.out (fun _ _ => trivial)) (Kd.C_below HC0.out HB2.out) (fun x cs hK => M_of_K47 x cs hK) (fun _ hk => hk.elim) (fun _ _ => trivial) HB2.out HB2.out.size hln0 ?_
              intro v92 W3 ho hb hg hat
              rw [List.nil_append] at ho
              have HF3 := Aside0.mk ho
              have HB3 := Aside0.mk hb
              have HG3 := Aside0.mk (Kd.R_grown HG.out hg (fun k hk e => by have := Kd.R_lt HE.out k e.symm; omega))
              clear ho hb hg hat hHeld
              refine hK.out _ _ (HAT.out _ HB3.out) (fun hHeld => ?_)
              clear hK K
              refine norm_ (a' := ?_) ?_ ?_; rotate_left; (· show Act.put _ (some 92) _ = _; simp only [Act.put, N1_]; rfl)
              exact norm_ (by first | (simp only [putAll, Act.put, List.setIfInBounds_toArray, List.set_cons_zero, List.set_cons_succ]; done) | (simp only [putAll, Act.put, List.setIfInBounds_toArray, List.set_cons_zero, List.set_cons_succ]; rfl)) (hCont (v89, v92, v107) _ ⟨HF3.out, Kd.R_mono HG3.out (fun _ _ => trivial), HB3.out⟩)
          · skip
            refine Kd.R_lit_step k47 (w0 := W0) W0.heap.size 47 (by rfl) (N := 107) (by rfl) (xs := [(⟨z, y, ⟨0, 0⟩⟩ : S47)]) (inner := [.int .i64 z, .int .i64 y, .int .i64 0, .int .i64 0]) (ok := fun k => k = W0.heap.size) (okp := fun _ => False) ?hr (reps47_one _ _ _ _) (fun _ hk => hk.elim) rfl HB0.out HB0.out.size (by simp) ?_; (case hr => first | (go_simp; done) | (go_simp; rfl))
            intro v107 W1 ho hb hg hat
            have HG := Aside0.mk ho
            have HB1 := Aside0.mk hb
            have HN := Aside0.mk (new_lt ho hat)
            clear ho hb hg hat
            refine hK.out _ _ (HAT.out _ HB1.out) (fun hHeld => ?_)
            clear hK K
            refine norm_ (a' := ?_) ?_ ?_; rotate_left; (· show Act.put _ (some 107) _ = _; simp only [Act.put, N1_]; rfl)
            refine one_ (i := 0) (N := some 89) (bs_ 22 524279) rfl rfl (by kernel_rfl) (by decide) (fun K hK => ?_)
            refine Kd.R_lit_step k47 (w0 := W0) W0.heap.size 47 (by rfl) (N := 89) (by rfl) (xs := ([] : List S47)) (inner := []) (ok := fun k => k ≠ W0.heap.size) (okp := fun _ => False) ?hr (Reps.none _ _) (fun _ hk => hk.elim) HN.out HB1.out HB1.out.size (by simp) ?_; (case hr => first | (go_simp; done) | (go_simp; rfl))
            intro v89 W2 ho hb hg hat
            have HE := Aside0.mk ho
            have HB2 := Aside0.mk hb
            have HG2 := Aside0.mk (Kd.R_grown HG.out hg (fun _ _ => by simp))
            clear ho hb hg hat hHeld
            refine hK.out _ _ (HAT.out _ HB2.out) (fun hHeld => ?_)
            clear hK K
            refine norm_ (a' := ?_) ?_ ?_; rotate_left; (· show Act.put _ (some 89) _ = _; simp only [Act.put, N1_]; rfl)
            refine one_ (i := 3) (N := some 92) (bs_ 22 524287) rfl rfl (by kernel_rfl) (by decide) (fun K hK => ?_)
            refine Kd.R_append_rows_step k47 (w0 := W0) W0.heap.size (by rfl) (.tmp 89) (.tmp 91) 22 47 (.agg #[(.int .i64 0), (.int .i64 0), (.int .i64 0), (.int .i64 0)]) 32 (by rfl) Try.underlying22 info47 rfl (by decide) (by omega) v89 [] l A l.length c (fun _ => True) (fun _ => False) rfl rfl (Kd.R_mono HE.out (fun _ _ => trivial)) (Kd.C_below HC0.out HB2.out) (fun x cs hK => M_of_K47 x cs hK) (fun _ hk => hk.elim) (fun _ _ => trivial) HB2.out HB2.out.size hln0 ?_
            intro v92 W3 ho hb hg hat
            rw [List.nil_append] at ho
            have HF3 := Aside0.mk ho
            have HB3 := Aside0.mk hb
            have HG3 := Aside0.mk (Kd.R_grown HG2.out hg (fun k hk e => HE.out.1 k e.symm hk))
            clear ho hb hg hat hHeld
            refine hK.out _ _ (HAT.out _ HB3.out) (fun hHeld => ?_)
            clear hK K
            refine norm_ (a' := ?_) ?_ ?_; rotate_left; (· show Act.put _ (some 92) _ = _; simp only [Act.put, N1_]; rfl)
            exact norm_ (by first | (simp only [putAll, Act.put, List.setIfInBounds_toArray, List.set_cons_zero, List.set_cons_succ]; done) | (simp only [putAll, Act.put, List.setIfInBounds_toArray, List.set_cons_zero, List.set_cons_succ]; rfl)) (hCont (v89, v92, v107) _ ⟨HF3.out, Kd.R_mono HG3.out (fun _ _ => trivial), HB3.out⟩)
        rintro ⟨v89, v92, v107⟩ W3 ⟨h92, h107, hb⟩
        obtain ⟨g, cap, rfl, gb0, gl0, gcs, gbk⟩ := Kd.R_form h107 (by simp)
        have HF := Aside0.mk h92
        have HG := Aside0.mk h107
        have HB3 := Aside0.mk hb
        clear h92 h107 hb gb0 gl0 gbk
        refine norm_ (a' := ?_) ?_ ?_; rotate_left; (· simp only [putAll, Act.put, List.setIfInBounds_toArray, List.set_cons_zero, List.set_cons_succ]; rfl)
        refine one_ (i := 19) (N := some 108) (bs_ 22 1048575) rfl rfl (by kernel_rfl) (by decide) (fun K hK => ?_)
        refine Kd.R_append_rows_step k47 (w0 := W0) W0.heap.size (by rfl) (.tmp 92) (.tmp 107) 22 47 (.agg #[(.int .i64 0), (.int .i64 0), (.int .i64 0), (.int .i64 0)]) 32 (by rfl) Try.underlying22 info47 rfl (by decide) (by omega) v92 l [⟨z, y, ⟨0, 0⟩⟩] (some ⟨g, 0, none⟩) [(⟨z, y, ⟨0, 0⟩⟩ : S47)].length cap (fun _ => True) (fun _ => False) rfl rfl HF.out (Kd.R_reads' HG.out).2.2 (fun x cs hK => M_of_K47 x cs hK) (fun _ hk => hk.elim) (fun _ _ => trivial) HB3.out HB3.out.size hln1 ?_
        intro v108 W4 ho hb hg hat
        obtain ⟨Am, cm, rfl⟩ := Kd.R_slice ho
        have HM := Aside0.mk ho
        have HB4 := Aside0.mk hb
        have bf := blk_frozen (blk_below H0d.out.bm hb) 1
        clear ho hb hg hat HF HG
        refine hK.out _ _ (HAT.out _ HB4.out) (fun hHeld => ?_)
        clear hK K
        refine norm_ (a' := ?_) ?_ ?_; rotate_left; (· show Act.put _ (some 108) _ = _; simp only [Act.put, N1_]; rfl)
        obtain ⟨p0, p1, p2⟩ := hHeld
        refine pure_ (i := 20) (N := some 109) (v := ?_) (a' := ?_) (bs_ 22 2097151) rfl rfl (by kernel_rfl) (fun _ _ _ h => h) (Or.inl ⟨by rfl, ?_⟩) ?_ ?_; rotate_left; (· intro w'; go_simp; with_reducible rfl); rotate_left; (· simp only [Act.put, N1_]; rfl)
        refine last_ (i := 21) (N := none) (bs_ 22 4194303) rfl rfl (by kernel_rfl) (by decide) (fun K hK => ?_)
        refine skip_ (w1 := ?_) (by rfl) rfl ?_ ?_; rotate_left; (· go_simp; rfl)
        refine hK.out _ _ ?_
        clear hK K
        refine done_ (by kernel_rfl) ?_
        have H5 := Aside0.mk (same_more H0d.out HB4.out HM.out HR.out).1
        have HM5 := Aside0.mk (same_more H0d.out HB4.out HM.out HR.out).2
        simp only [List.length_append, List.length_cons, List.length_nil, Nat.zero_add] at H5 HM5
        have HL3 : Aside0 ((l ++ [(⟨z, y, ⟨0, 0⟩⟩ : S47)]).length = l.length + 1) := ⟨by simp⟩
        have HCM := Aside0.mk (Kd.R_reads' HM5.out)
        rw [HL3.out] at HCM
        clear p0 p1 p2 bf HB3 HB4 HM H0d HC0 HB0 HAT e2 e2' e3 e4 e5 e6 e7 e8 HZ2 HZ3 HE3 HE4 HE5 HE6 HE7 HE8 b0 b1 b2 n1 n2 hln1
        generalize W4.setCell ⟨MB, 1, none⟩ (.slice Am (l.length + 1) cm) = W5 at H5 HM5 HCM ⊢
        have t0 := cell_two H5.out.bt 0 rfl
        have t1 := cell_two H5.out.bt 1 rfl
        have hct := (Kd.R_reads' H5.out.kt).2.1
        have hcm := HCM.out.2.1
        go_wp2_with (first
          | (go_at_call 13; have hgu := HK7.out; clear hgu; refine (tight_len HT3.out HL3.out HKl3.out (Kd.C_below HCM.out.2.2 HB57.out) hcm).mono ?_; rintro e W8 ⟨A3, c3, rfl, hR, hc3, hb⟩; have HK8 := Aside0.mk (Kd.R_below HK7.out hb); have HW8 := Aside0.mk (Kd.R_below HW7.out hb); have HK38 := Aside0.mk (Kd.R_lower hR H7.out.bel.size); have H8 := Aside0.mk (same_below H7.out hb); have HC3 := Aside0.mk hc3; clear hb hR hc3 t0 t1)
          | (go_at_call 13; refine (tight_len HT2.out HL.out HKl2.out (C_of_R H5.out.kt HL.out) hct).mono ?_; rintro e W6 ⟨A2, c2, rfl, hR, hc2, hb⟩; have HK6 := Aside0.mk (Kd.R_lower hR H5.out.bel.size); have H6 := Aside0.mk (same_below H5.out hb); have HB56 := Aside0.mk hb; have HC2 := Aside0.mk hc2; clear hb hR hc2 t0 t1; have t0 := cell_two H6.out.bt 0 rfl; have t1 := cell_two H6.out.bt 1 rfl)
          | (go_at_call 19; refine (wrong_len HW2o.out HL.out HWl.out (C_of_R H6.out.kt HL.out) hct).mono ?_; rintro e W7 ⟨Av, cv, rfl, hR, hcv, hb⟩; have HK7 := Aside0.mk (Kd.R_below HK6.out hb); have HW7 := Aside0.mk (Kd.R_lower hR H6.out.bel.size); have H7 := Aside0.mk (same_below H6.out hb); have HB57 := Aside0.mk (bl_next HB56.out hb); have HCV := Aside0.mk hcv; clear hb hR hcv t0 t1; have t0 := cell_two H7.out.bm 0 rfl; have t1 := cell_two H7.out.bm 1 rfl)
          | (go_at_call 15; refine (ints_len HWl.out hnw (C_of_R H8.out.kw HWl.out) HCWo.out (C_of_R HW8.out HWl.out) HCV.out).mono ?_; rintro e W9 ⟨rfl, hb⟩; have HK9 := Aside0.mk (Kd.R_below HK8.out hb); have HK39 := Aside0.mk (Kd.R_below HK38.out hb); have H9 := Aside0.mk (same_below H8.out hb); clear hb)
          | (go_at_call 10; refine (awake_any _).mono ?_; rintro e W10 ⟨rfl, hb⟩; have HB10 := Aside0.mk (bl_next H9.out.bel hb); clear hb))
        go_ret
        exact ⟨rfl, HB10.out⟩
end Go.Proofs.Ytalgbihpidpblaa.Print
