/- The document's Press and Fault, as contracts in the code's words. -/
import Derived.Test.YtbjinkkmakhbaaaRT
namespace Go.Proofs.Ytbjinkkmakhbaaa.Print
open Go.RowKit Go.Shelf Go.Proofs.YtbjinkkmakhbaaaW.PrintWords Go.Proofs.YtbjinkkmakhbaaaW.PrintLast Go.Proofs.YtbjinkkmakhbaaaW.PrintMore
set_option linter.unusedVariables false
set_option linter.unusedSimpArgs false
attribute [local go_sem] Oper.semAt_some
set_option maxHeartbeats 400000 in
theorem rin_any (n low high : Int) (w : World) :
    Calls Try.prog 37 #[.int .i64 n, .int .i64 low, .int .i64 high] w fun e w' => e = .returned (.bool (withinB n low high)) ∧ w' = w := by
  by_cases h : low ≤ n
  · have hb : decide (low ≤ n) = true := by simpa using h
    have hw : withinB n low high = decide (n ≤ high) := by simp [withinB, h]
    rw [hw]; clear hw h
    go_enter Try.func37, Try.ntmps37
    go_wp2
    go_ret
    exact ⟨rfl, rfl⟩
  · have hb : decide (low ≤ n) = false := by simpa using h
    have hw : withinB n low high = false := by simp [withinB, h]
    rw [hw]; clear hw h
    go_enter Try.func37, Try.ntmps37
    go_wp2
    go_ret
    exact ⟨rfl, rfl⟩
theorem results_rpress {a b e : Int} {W : World} {g : Nat} {tmps : Array Value} (h : W.heap[g]? = some (.cells #[.int .i64 a, .int .i64 b] 23 (0, 0))) (h4 : tmps[4]? = some (.pointer (some ⟨g, 0, none⟩))) (h5 : tmps[5]? = some (.int .i64 e)) : (results Try.f15 tmps).run Try.prog W = .ok (.tuple #[.agg #[.int .i64 a, .int .i64 b], .int .i64 e]) W := by
  have g0 := cell_two h 0 rfl
  have g1 := cell_two h 1 rfl
  simp [results, Try.f15, go_sem, h4, h5, g0, g1]
set_option maxHeartbeats 4000000 in
set_option maxRecDepth 100000 in
theorem rPress_any (lo hi : Int) (A : Option Addr) (c : Nat) (js : List S50) (A' : Option Addr) (c' : Nat) (ms : List S54) (j : Int) (w : World) (hr : Kd.C k50 w A js.length js) (hc : js.length ≤ c) (hr' : Kd.C k54 w A' ms.length ms) (hc' : ms.length ≤ c') (hl : js.length ≤ 9223372036854775806) (hml0 : ms.length ≤ 9223372036854775806) :
    Calls Try.prog 15 #[.agg #[.int .i64 lo, .int .i64 hi, .slice A js.length c, .slice A' ms.length c'], .int .i64 j] w fun e w' => e = .returned (.tuple #[.agg #[.int .i64 (pressS lo hi js ms j).1, .int .i64 (pressS lo hi js ms j).2.1], .int .i64 (pressS lo hi js ms j).2.2]) ∧ Below w.heap.size w w' := by
  have H0 : Aside0 (NetAt w ((w.alloc (.cells (netC lo hi A js.length c A' ms.length c') 27)).alloc (.cells #[.int .i64 0, .int .i64 0] 23)) w.heap.size lo hi A c js A' c' ms) := ⟨⟨blk_alloc (blk_new w _) _, Kd.C_alloc (Kd.C_alloc hr _) _, Kd.C_alloc (Kd.C_alloc hr' _) _, below_alloc (below_alloc (Below.refl _ _) _) _⟩⟩
  have hq0 := blk_new (w.alloc (.cells (netC lo hi A js.length c A' ms.length c') 27)) (.cells #[.int .i64 0, .int .i64 0] 23)
  rw [World.size_alloc] at hq0
  have Q0 := Aside0.mk hq0
  clear hq0
  have s0 := cell_two H0.out.blk 0 rfl
  have s1 := cell_two H0.out.blk 1 rfl
  have s2 := cell_two H0.out.blk 2 rfl
  have s3 := cell_two H0.out.blk 3 rfl
  have HNet : Aside0 (∀ W, NetAt w W w.heap.size lo hi A c js A' c' ms → Calls Try.prog 23 #[.agg #[.int .i64 lo, .int .i64 hi, .slice A js.length c, .slice A' ms.length c']] W fun e w' => e = .returned (.bool (netB lo hi js ms)) ∧ Below W.heap.size W w') := ⟨fun W h => rNetwork_any lo hi A c js A' c' ms W h.jr hc h.mr hc' hl hml0⟩
  have hw : wrap64 ((js.length : Int) - 1) = (js.length : Int) - 1 := by unfold wrap64; omega
  clear hr hr'
  unfold pressS
  by_cases hn : netB lo hi js ms = true
  · rw [if_pos hn]
    have hok := net_ok hn
    rw [hn] at HNet
    by_cases hj : withinB j 0 ((js.length : Int) - 1) = true
    · rw [if_pos hj]
      have hj2 := hj
      simp only [withinB, Bool.and_eq_true, decide_eq_true_eq] at hj2
      obtain ⟨k, rfl⟩ := Int.eq_ofNat_of_zero_le hj2.1
      have hml := hok.ml
      have hjl := hok.jl
      have hkm : k ≤ ms.length := by omega
      have HWi : Aside0 (∀ W, Calls Try.prog 37 #[.int .i64 (k : Int), .int .i64 0, .int .i64 ((js.length : Int) - 1)] W fun e w' => e = .returned (.bool true) ∧ w' = W) := ⟨fun W => by rw [← hj]; exact rin_any _ _ _ W⟩
      have HPr : Aside0 (∀ W, NetAt w W w.heap.size lo hi A c js A' c' ms → Calls Try.prog 41 #[.agg #[.int .i64 lo, .int .i64 hi, .slice A js.length c, .slice A' ms.length c'], .int .i64 (k : Int)] W fun e w' => e = .returned (.tuple #[.agg #[.int .i64 (prS lo hi js ms k).1, .int .i64 (prS lo hi js ms k).2.1], .bool (prS lo hi js ms k).2.2]) ∧ Below W.heap.size W w') := ⟨fun W h => rpress_any lo hi A c js A' c' ms hok k hkm W h.jr hc h.mr hc'⟩
      unfold prS at HPr
      rw [Int.toNat_natCast]
      clear hn hj hj2 hok hml hjl hkm
      generalize loP js ms lo k = pl at HPr ⊢
      generalize hiP js ms hi k = ph at HPr ⊢
      generalize statusP ms k = st at HPr ⊢
      by_cases hst : st = 0
      · rw [if_pos hst]
        rw [if_pos hst] at HPr
        clear hst
        simp only at HPr
        go_enter Try.func15, Try.ntmps15
        go_wp2_with (first
          | (go_at_call 23; with_reducible refine (HNet.out _ H0.out).mono ?_; rintro e W1 ⟨rfl, hb⟩; have H1 := Aside0.mk (H0.out.next hb); have Q1 := Aside0.mk (blk_below Q0.out hb); clear hb s0 s1 s2 s3; have s0 := cell_two H1.out.blk 0 rfl; have s1 := cell_two H1.out.blk 1 rfl; have s2 := cell_two H1.out.blk 2 rfl; have s3 := cell_two H1.out.blk 3 rfl; have q0 := cell_two Q1.out 0 rfl; have q1 := cell_two Q1.out 1 rfl; have f0 := blk_frozen Q1.out 0; have f1 := blk_frozen Q1.out 1)
          | (go_at_call 37; with_reducible refine (HWi.out _).mono ?_; rintro e w' ⟨rfl, rfl⟩)
          | (go_at_call 41; with_reducible refine (HPr.out _ H1.out).mono ?_; rintro e W2 ⟨rfl, hb⟩; have HB2 := Aside0.mk (below_alloc (bl_next' H1.out.bel hb) (.cells #[.int .i64 (0), .int .i64 (0)] 23)); have Q2 := Aside0.mk (blk_alloc (blk_below Q1.out hb) (.cells #[.int .i64 (0), .int .i64 (0)] 23)); clear hb q0 q1 f0 f1 s0 s1 s2 s3; have q0 := cell_two Q2.out 0 rfl; have q1 := cell_two Q2.out 1 rfl; have f0 := blk_frozen Q2.out 0; have f1 := blk_frozen Q2.out 1))
        refine bodyPost_ret (v := .tuple #[.agg #[.int .i64 (0), .int .i64 (0)], .int .i64 4]) (results_rpress (blk_put (blk_put Q2.out 0 (.int .i64 (0)) rfl) 1 (.int .i64 (0)) rfl) rfl rfl) rfl ⟨rfl, (HB2.out.setCell (by simp) _).setCell (by simp) _⟩
      · rw [if_neg hst]
        rw [if_neg hst] at HPr
        clear hst
        simp only at HPr
        go_enter Try.func15, Try.ntmps15
        go_wp2_with (first
          | (go_at_call 23; with_reducible refine (HNet.out _ H0.out).mono ?_; rintro e W1 ⟨rfl, hb⟩; have H1 := Aside0.mk (H0.out.next hb); have Q1 := Aside0.mk (blk_below Q0.out hb); clear hb s0 s1 s2 s3; have s0 := cell_two H1.out.blk 0 rfl; have s1 := cell_two H1.out.blk 1 rfl; have s2 := cell_two H1.out.blk 2 rfl; have s3 := cell_two H1.out.blk 3 rfl; have q0 := cell_two Q1.out 0 rfl; have q1 := cell_two Q1.out 1 rfl; have f0 := blk_frozen Q1.out 0; have f1 := blk_frozen Q1.out 1)
          | (go_at_call 37; with_reducible refine (HWi.out _).mono ?_; rintro e w' ⟨rfl, rfl⟩)
          | (go_at_call 41; with_reducible refine (HPr.out _ H1.out).mono ?_; rintro e W2 ⟨rfl, hb⟩; have HB2 := Aside0.mk (below_alloc (bl_next' H1.out.bel hb) (.cells #[.int .i64 (pl), .int .i64 (ph)] 23)); have Q2 := Aside0.mk (blk_alloc (blk_below Q1.out hb) (.cells #[.int .i64 (pl), .int .i64 (ph)] 23)); clear hb q0 q1 f0 f1 s0 s1 s2 s3; have q0 := cell_two Q2.out 0 rfl; have q1 := cell_two Q2.out 1 rfl; have f0 := blk_frozen Q2.out 0; have f1 := blk_frozen Q2.out 1))
        refine bodyPost_ret (v := .tuple #[.agg #[.int .i64 (pl), .int .i64 (ph)], .int .i64 0]) (results_rpress (blk_put (blk_put Q2.out 0 (.int .i64 (pl)) rfl) 1 (.int .i64 (ph)) rfl) rfl rfl) rfl ⟨rfl, (HB2.out.setCell (by simp) _).setCell (by simp) _⟩
    · have hj' : withinB j 0 ((js.length : Int) - 1) = false := by simpa using hj
      rw [if_neg hj]
      have HWi : Aside0 (∀ W, Calls Try.prog 37 #[.int .i64 j, .int .i64 0, .int .i64 ((js.length : Int) - 1)] W fun e w' => e = .returned (.bool false) ∧ w' = W) := ⟨fun W => by rw [← hj']; exact rin_any _ _ _ W⟩
      clear hn hj hj' hok
      go_enter Try.func15, Try.ntmps15
      go_wp2_with (first
        | (go_at_call 23; with_reducible refine (HNet.out _ H0.out).mono ?_; rintro e W1 ⟨rfl, hb⟩; have H1 := Aside0.mk (H0.out.next hb); have Q1 := Aside0.mk (blk_below Q0.out hb); clear hb s0 s1 s2 s3; have s0 := cell_two H1.out.blk 0 rfl; have s1 := cell_two H1.out.blk 1 rfl; have s2 := cell_two H1.out.blk 2 rfl; have s3 := cell_two H1.out.blk 3 rfl; have q0 := cell_two Q1.out 0 rfl; have q1 := cell_two Q1.out 1 rfl; have f0 := blk_frozen Q1.out 0; have f1 := blk_frozen Q1.out 1)
        | (go_at_call 37; with_reducible refine (HWi.out _).mono ?_; rintro e w' ⟨rfl, rfl⟩))
      refine bodyPost_ret (v := .tuple #[.agg #[.int .i64 (0), .int .i64 (0)], .int .i64 2]) (results_rpress (blk_put (blk_put Q1.out 0 (.int .i64 (0)) rfl) 1 (.int .i64 (0)) rfl) rfl rfl) rfl ⟨rfl, (H1.out.bel.setCell (by simp) _).setCell (by simp) _⟩
  · have hn' : netB lo hi js ms = false := by simpa using hn
    rw [if_neg hn]
    rw [hn'] at HNet
    clear hn hn'
    go_enter Try.func15, Try.ntmps15
    go_wp2_with (first
      | (go_at_call 23; with_reducible refine (HNet.out _ H0.out).mono ?_; rintro e W1 ⟨rfl, hb⟩; have H1 := Aside0.mk (H0.out.next hb); have Q1 := Aside0.mk (blk_below Q0.out hb); clear hb s0 s1 s2 s3; have s0 := cell_two H1.out.blk 0 rfl; have s1 := cell_two H1.out.blk 1 rfl; have s2 := cell_two H1.out.blk 2 rfl; have s3 := cell_two H1.out.blk 3 rfl; have q0 := cell_two Q1.out 0 rfl; have q1 := cell_two Q1.out 1 rfl; have f0 := blk_frozen Q1.out 0; have f1 := blk_frozen Q1.out 1))
    refine bodyPost_ret (v := .tuple #[.agg #[.int .i64 (0), .int .i64 (0)], .int .i64 1]) (results_rpress (blk_put (blk_put Q1.out 0 (.int .i64 (0)) rfl) 1 (.int .i64 (0)) rfl) rfl rfl) rfl ⟨rfl, (H1.out.bel.setCell (by simp) _).setCell (by simp) _⟩
set_option maxHeartbeats 8000000 in
set_option maxRecDepth 100000 in
theorem rFault_any (lo hi : Int) (A : Option Addr) (c : Nat) (js : List S50) (A' : Option Addr) (c' : Nat) (ms : List S54) (w : World) (hr : Kd.C k50 w A js.length js) (hc : js.length ≤ c) (hr' : Kd.C k54 w A' ms.length ms) (hc' : ms.length ≤ c') (hl : js.length ≤ 9223372036854775806) (hml0 : ms.length ≤ 9223372036854775806) :
    Calls Try.prog 17 #[.agg #[.int .i64 lo, .int .i64 hi, .slice A js.length c, .slice A' ms.length c']] w fun e w' => e = .returned (.tuple #[.int .i64 (faultT lo hi js ms).1, .bool (faultT lo hi js ms).2.1, .int .i64 (faultT lo hi js ms).2.2]) ∧ Below w.heap.size w w' := by
  have H0 : Aside0 (NetAt w (w.alloc (.cells (netC lo hi A js.length c A' ms.length c') 27)) w.heap.size lo hi A c js A' c' ms) := ⟨⟨blk_new w _, Kd.C_alloc hr _, Kd.C_alloc hr' _, below_alloc (Below.refl _ _) _⟩⟩
  have s0 := cell_two H0.out.blk 0 rfl
  have s1 := cell_two H0.out.blk 1 rfl
  have s2 := cell_two H0.out.blk 2 rfl
  have s3 := cell_two H0.out.blk 3 rfl
  have HNet : Aside0 (∀ W, NetAt w W w.heap.size lo hi A c js A' c' ms → Calls Try.prog 23 #[.agg #[.int .i64 lo, .int .i64 hi, .slice A js.length c, .slice A' ms.length c']] W fun e w' => e = .returned (.bool (netB lo hi js ms)) ∧ Below W.heap.size W w') := ⟨fun W h => rNetwork_any lo hi A c js A' c' ms W h.jr hc h.mr hc' hl hml0⟩
  clear hr hr'
  unfold faultT
  by_cases hn : netB lo hi js ms = true
  · rw [if_pos hn]
    have HOK := Aside0.mk (net_ok hn)
    have hml := HOK.out.ml
    have hjl := HOK.out.jl
    rw [hn] at HNet
    clear hn
    obtain ⟨res, hres⟩ : ∃ r, (if (faultS lo hi js ms).2.2 = true then ((faultS lo hi js ms).1, (faultS lo hi js ms).2.1, (0 : Int)) else ((0 : Int), false, (4 : Int))) = r := ⟨_, rfl⟩
    rw [hres]
    have HRES := Aside0.mk hres
    clear hres
    go_enter Try.func17, Try.ntmps17
    go_wp2_with (go_at_call 23; with_reducible refine (HNet.out _ H0.out).mono ?_; rintro e W1 ⟨rfl, hb⟩; have H1 := Aside0.mk (H0.out.next hb); clear hb s0 s1 s2 s3; have s2 := cell_two H1.out.blk 2 rfl)
    go_loopw [5] (fun i wr => ∃ k : Nat, i = .int .i64 (k : Int) ∧ k ≤ js.length ∧ Aside0 (faultS lo hi js ms = faultL lo hi js ms (js.length - k) k) ∧ Aside0 (NetAt w wr w.heap.size lo hi A c js A' c' ms)) (fun i _ => js.length - (intOf i).toNat)
    case atStart => exact ⟨0, rfl, by omega, ⟨rfl⟩, H1⟩
    case round =>
      clear s2 H1
      obtain ⟨k, rfl, hk, HS, H⟩ := hrel
      have s0 := cell_two H.out.blk 0 rfl
      have s1 := cell_two H.out.blk 1 rfl
      have s2 := cell_two H.out.blk 2 rfl
      have s3 := cell_two H.out.blk 3 rfl
      by_cases hlt : k < js.length
      · have hlt' : decide ((k : Int) < (js.length : Int)) = true := decide_eq_true (by omega)
        have k0 : (0 : Int) ≤ (k : Int) := Int.natCast_nonneg k
        have k1 : (k : Int) < (js.length : Int) := by omega
        have hkm : k ≤ ms.length := by omega
        have HPr : Aside0 (Calls Try.prog 41 #[.agg #[.int .i64 lo, .int .i64 hi, .slice A js.length c, .slice A' ms.length c'], .int .i64 (k : Int)] wr fun e w' => e = .returned (.tuple #[.agg #[.int .i64 (prS lo hi js ms k).1, .int .i64 (prS lo hi js ms k).2.1], .bool (prS lo hi js ms k).2.2]) ∧ Below wr.heap.size wr w') := ⟨rpress_any lo hi A c js A' c' ms HOK.out k hkm wr H.out.jr hc H.out.mr hc'⟩
        unfold prS at HPr
        have HBD : Aside0 (badP lo hi js ms k = if statusP ms k = 0 then none else if loP js ms lo k < (rd_T50 js (k : Int)).f1 then some true else if (rd_T50 js (k : Int)).f2 < hiP js ms hi k then some false else none) := ⟨rfl⟩
        generalize loP js ms lo k = pl at HPr HBD
        generalize hiP js ms hi k = ph at HPr HBD
        generalize statusP ms k = st at HPr HBD
        obtain ⟨n0, h0⟩ : ∃ x, (rd_T50 js (k : Int)).f0.f0 = x := ⟨_, rfl⟩
        obtain ⟨n1, h1⟩ : ∃ x, (rd_T50 js (k : Int)).f0.f1 = x := ⟨_, rfl⟩
        obtain ⟨y1, h2⟩ : ∃ x, (rd_T50 js (k : Int)).f1 = x := ⟨_, rfl⟩
        obtain ⟨y2, h3⟩ : ∃ x, (rd_T50 js (k : Int)).f2 = x := ⟨_, rfl⟩
        obtain ⟨y3, h4⟩ : ∃ x, (rd_T50 js (k : Int)).f3 = x := ⟨_, rfl⟩
        have HY := Aside0.mk (And.intro h0 (And.intro h1 (And.intro h2 (And.intro h3 h4))))
        rw [h2, h3] at HBD
        clear h0 h1 h2 h3 h4
        by_cases hst : st = 0
        · rw [if_pos hst] at HPr
          have HBN : Aside0 (badP lo hi js ms k = none) := ⟨by rw [HBD.out, if_pos hst]⟩
          clear hst HBD
          simp only at HPr
          go_wp2_with (go_at_call 41; with_reducible refine HPr.out.mono ?_; rintro e W2 ⟨rfl, hb⟩; have H2 : Aside0 (NetAt w (W2.alloc (.cells #[.int .i64 (0), .int .i64 (0)] 23)) w.heap.size lo hi A c js A' c' ms) := ⟨(H.out.next hb).next (below_alloc (Below.refl _ _) _)⟩; clear hb s0 s1 s2 s3; have s2 := cell_two H2.out.blk 2 rfl; obtain ⟨ad, e, g0, g1, g2, g3, g4⟩ := at_T50 H2.out.jr k k0 k1; cases e; simp only [Int.toNat_natCast] at g0 g1 g2 g3 g4; rw [HY.out.1] at g0; rw [HY.out.2.1] at g1; rw [HY.out.2.2.1] at g2; rw [HY.out.2.2.2.1] at g3; rw [HY.out.2.2.2.2] at g4)
          go_roundw
          case rel => exact ⟨k + 1, by go_num, by omega, ⟨by rw [HS.out]; exact faultL_none hlt HBN.out⟩, ⟨H2.out.next (below_alloc (Below.refl _ _) _)⟩⟩
          case measure => simp [intOf]; omega
        · rw [if_neg hst] at HPr
          have HBE : Aside0 (badP lo hi js ms k = if pl < y1 then some true else if y2 < ph then some false else none) := ⟨by rw [HBD.out, if_neg hst]⟩
          clear hst HBD
          simp only at HPr
          by_cases hlow : pl < y1
          · have d1 : decide (pl < y1) = true := decide_eq_true hlow
            have HBN : Aside0 (badP lo hi js ms k = some true) := ⟨by rw [HBE.out, if_pos hlow]⟩
            clear hlow HBE
            go_wp2_with (go_at_call 41; with_reducible refine HPr.out.mono ?_; rintro e W2 ⟨rfl, hb⟩; have H2 : Aside0 (NetAt w (W2.alloc (.cells #[.int .i64 (pl), .int .i64 (ph)] 23)) w.heap.size lo hi A c js A' c' ms) := ⟨(H.out.next hb).next (below_alloc (Below.refl _ _) _)⟩; clear hb s0 s1 s2 s3; have s2 := cell_two H2.out.blk 2 rfl; obtain ⟨ad, e, g0, g1, g2, g3, g4⟩ := at_T50 H2.out.jr k k0 k1; cases e; simp only [Int.toNat_natCast] at g0 g1 g2 g3 g4; rw [HY.out.1] at g0; rw [HY.out.2.1] at g1; rw [HY.out.2.2.1] at g2; rw [HY.out.2.2.2.1] at g3; rw [HY.out.2.2.2.2] at g4)
            go_region_held3 (fun w' => w'.cell? ⟨W2.heap.size, 0, none⟩ = some (.int .i64 pl) ∧ w'.cell? ⟨W2.heap.size + 1, 2, none⟩ = some (.int .i64 y1)) (go_keep) (fail)
            go_wp2_with (fail)
            go_ret3
            exact ⟨by rw [← HRES.out, HS.out, faultL_some hlt HBN.out]; rfl, Below.drew (below_alloc H2.out.bel _)⟩
          · have d1 : decide (pl < y1) = false := decide_eq_false hlow
            have HBF : Aside0 (badP lo hi js ms k = if y2 < ph then some false else none) := ⟨by rw [HBE.out, if_neg hlow]⟩
            clear hlow HBE
            by_cases hhi : y2 < ph
            · have d2 : decide (y2 < ph) = true := decide_eq_true hhi
              have HBN : Aside0 (badP lo hi js ms k = some false) := ⟨by rw [HBF.out, if_pos hhi]⟩
              clear hhi HBF
              go_wp2_with (go_at_call 41; with_reducible refine HPr.out.mono ?_; rintro e W2 ⟨rfl, hb⟩; have H2 : Aside0 (NetAt w (W2.alloc (.cells #[.int .i64 (pl), .int .i64 (ph)] 23)) w.heap.size lo hi A c js A' c' ms) := ⟨(H.out.next hb).next (below_alloc (Below.refl _ _) _)⟩; clear hb s0 s1 s2 s3; have s2 := cell_two H2.out.blk 2 rfl; obtain ⟨ad, e, g0, g1, g2, g3, g4⟩ := at_T50 H2.out.jr k k0 k1; cases e; simp only [Int.toNat_natCast] at g0 g1 g2 g3 g4; rw [HY.out.1] at g0; rw [HY.out.2.1] at g1; rw [HY.out.2.2.1] at g2; rw [HY.out.2.2.2.1] at g3; rw [HY.out.2.2.2.2] at g4)
              go_region_held3 (fun w' => w'.cell? ⟨W2.heap.size, 0, none⟩ = some (.int .i64 pl) ∧ w'.cell? ⟨W2.heap.size + 1, 2, none⟩ = some (.int .i64 y1)) (go_keep) (fail)
              go_wp2_with (fail)
              go_ret3
              exact ⟨by rw [← HRES.out, HS.out, faultL_some hlt HBN.out]; rfl, Below.drew (below_alloc H2.out.bel _)⟩
            · have d2 : decide (y2 < ph) = false := decide_eq_false hhi
              have HBN : Aside0 (badP lo hi js ms k = none) := ⟨by rw [HBF.out, if_neg hhi]⟩
              clear hhi HBF
              go_wp2_with (go_at_call 41; with_reducible refine HPr.out.mono ?_; rintro e W2 ⟨rfl, hb⟩; have H2 : Aside0 (NetAt w (W2.alloc (.cells #[.int .i64 (pl), .int .i64 (ph)] 23)) w.heap.size lo hi A c js A' c' ms) := ⟨(H.out.next hb).next (below_alloc (Below.refl _ _) _)⟩; clear hb s0 s1 s2 s3; have s2 := cell_two H2.out.blk 2 rfl; obtain ⟨ad, e, g0, g1, g2, g3, g4⟩ := at_T50 H2.out.jr k k0 k1; cases e; simp only [Int.toNat_natCast] at g0 g1 g2 g3 g4; rw [HY.out.1] at g0; rw [HY.out.2.1] at g1; rw [HY.out.2.2.1] at g2; rw [HY.out.2.2.2.1] at g3; rw [HY.out.2.2.2.2] at g4)
              go_roundw
              case rel => exact ⟨k + 1, by go_num, by omega, ⟨by rw [HS.out]; exact faultL_none hlt HBN.out⟩, ⟨H2.out.next (below_alloc (Below.refl _ _) _)⟩⟩
              case measure => simp [intOf]; omega
      · have hlt' : decide ((k : Int) < (js.length : Int)) = false := decide_eq_false (by omega)
        go_wp2_with (fail)
        go_ret3
        have e : js.length - k = 0 := by omega
        have hf : faultS lo hi js ms = (0, false, false) := by rw [HS.out, e]; rfl
        exact ⟨by rw [← HRES.out, hf]; rfl, H.out.bel⟩
  · have hn' : netB lo hi js ms = false := by simpa using hn
    rw [if_neg hn]
    rw [hn'] at HNet
    clear hn hn'
    go_enter Try.func17, Try.ntmps17
    go_wp2_with (go_at_call 23; with_reducible refine (HNet.out _ H0.out).mono ?_; rintro e W1 ⟨rfl, hb⟩; have H1 := Aside0.mk (H0.out.next hb); clear hb s0 s1 s2 s3; have s2 := cell_two H1.out.blk 2 rfl)
    go_ret3
    exact ⟨rfl, H1.out.bel⟩
end Go.Proofs.Ytbjinkkmakhbaaa.Print
