/- The law PipeTrue, walked. -/
import Derived.Test.YtbjinkkmakhbaaaPT
namespace Go.Proofs.Ytbjinkkmakhbaaa.Print
open Go.RowKit Go.Shelf Go.Proofs.YtbjinkkmakhbaaaW.PrintWords Go.Proofs.YtbjinkkmakhbaaaW.PrintLast Go.Proofs.YtbjinkkmakhbaaaW.PrintMore
set_option linter.unusedVariables false
set_option linter.unusedSimpArgs false
attribute [local go_sem] Oper.semAt_some
theorem large_net {lo hi : Int} {js : List S50} {ms : List S54} (h : largeB js ms 8 = true) : netB lo hi js ms = false := by
  cases hn : netB lo hi js ms
  · rfl
  · have h1 := (net_ok hn).jl
    have h2 := (net_ok hn).ml
    simp only [largeB, Bool.or_eq_true, Bool.and_eq_true, decide_eq_true_eq] at h
    omega
theorem own_C {W : World} {B : Nat} {ok : Nat → Prop} {A : Option Addr} {c : Nat} {L : List Int} (h : Kd.R (Kd.int .i64) 3 W B ok (.slice A L.length c) L) : Kd.C (Kd.int .i64) W A L.length L ∧ L.length ≤ c := by
  obtain ⟨A2, c2, e, h1, h2⟩ := Kd.R_reads h
  obtain ⟨rfl, _, rfl⟩ := Value.slice.inj e
  exact ⟨h2, h1⟩
/-- What the truth needs behind its call. -/
structure TuAt (w W : World) (lo hi : Int) (A : Option Addr) (c : Nat) (js : List S50) (A' : Option Addr) (c' : Nat) (ms : List S54) (Ad : Option Addr) (cd : Nat) (d : List Int) : Prop where
  net : NetAt w W w.heap.size lo hi A c js A' c' ms
  dw : Kd.C (Kd.int .i64) W Ad d.length d
theorem TuAt.next {w W W' : World} {lo hi : Int} {A : Option Addr} {c : Nat} {js : List S50} {A' : Option Addr} {c' : Nat} {ms : List S54} {Ad : Option Addr} {cd : Nat} {d : List Int} (h : TuAt w W lo hi A c js A' c' ms Ad cd d) (hb : Below W.heap.size W W') : TuAt w W' lo hi A c js A' c' ms Ad cd d := ⟨h.net.next hb, Kd.C_below h.dw hb⟩
set_option maxHeartbeats 8000000 in
set_option maxRecDepth 100000 in
theorem true_walk (lo hi : Int) (A : Option Addr) (c : Nat) (js : List S50) (A' : Option Addr) (c' : Nat) (ms : List S54) (Ab : Option Addr) (cb : Nat) (lb : List Int) (w : World) (hr : Kd.C k50 w A js.length js) (hc : js.length ≤ c) (hr' : Kd.C k54 w A' ms.length ms) (hc' : ms.length ≤ c') (hbr : Kd.C (Kd.int .u32) w Ab lb.length lb) (hcb : lb.length ≤ cb) (hgb : lb.length ≤ 9223372036854775807 ∧ ∀ x ∈ lb, (Lit.int .u32 x).wf = true) :
    Calls Try.prog 5 #[.agg #[.int .i64 lo, .int .i64 hi, .slice A js.length c, .slice A' ms.length c'], .slice Ab lb.length cb] w fun e w' => e = .returned (.bool true) ∧ Below w.heap.size w w' := by
  have hm := hgb.1
  have hg : ∀ x ∈ lb, 0 ≤ x ∧ x ≤ 4294967295 := fun x hx => by
    have h2 : (decide ((0 : Int) ≤ x) && decide (x ≤ (4294967295 : Int))) = true := hgb.2 x hx
    rw [Bool.and_eq_true, decide_eq_true_eq, decide_eq_true_eq] at h2
    exact h2
  clear hgb
  have H0 : Aside0 (NetAt w (w.alloc (.cells (netC lo hi A js.length c A' ms.length c') 27)) w.heap.size lo hi A c js A' c' ms) := ⟨⟨blk_new w _, Kd.C_alloc hr _, Kd.C_alloc hr' _, below_alloc (Below.refl _ _) _⟩⟩
  have s0 := cell_two H0.out.blk 0 rfl
  have s1 := cell_two H0.out.blk 1 rfl
  have s2 := cell_two H0.out.blk 2 rfl
  have s3 := cell_two H0.out.blk 3 rfl
  have HLg : Aside0 (∀ W, NetAt w W w.heap.size lo hi A c js A' c' ms → Calls Try.prog 10 #[.agg #[.int .i64 lo, .int .i64 hi, .slice A js.length c, .slice A' ms.length c'], .int .i64 8] W fun e w' => e = .returned (.bool (largeB js ms 8)) ∧ Below W.heap.size W w') := ⟨fun W h => large_any lo hi A c js A' c' ms 8 W h.jr hc h.mr hc'⟩
  have HFt : Aside0 (∀ W, NetAt w W w.heap.size lo hi A c js A' c' ms → Calls Try.prog 16 #[.agg #[.int .i64 lo, .int .i64 hi, .slice A js.length c, .slice A' ms.length c']] W fun e w' => e = .returned (.tuple #[.int .i64 (faultT lo hi js ms).1, .bool (faultT lo hi js ms).2.1, .int .i64 (faultT lo hi js ms).2.2]) ∧ Below W.heap.size W w') := ⟨fun W h => Fault_any lo hi A c js A' c' ms W h.jr hc h.mr hc'⟩
  have HBASE := Aside0.mk (And.intro hr (And.intro hr' hbr))
  clear hr hr' hbr
  by_cases hne : lb = []
  · have hz : ((lb.length : Int) == 0) = true := by rw [hne]; rfl
    clear hne hg hm
    generalize faultT lo hi js ms = ft at HFt
    obtain ⟨f1, f2, f3⟩ := ft
    simp only at HFt
    by_cases hf3 : f3 = 1
    · have d3 : (f3 == 1) = true := by rw [hf3]; rfl
      clear hf3
      go_enter Try.func5, Try.ntmps5
      go_wp2_with (first
        | (go_at_call 16; (with_reducible refine (HFt.out _ H0.out).mono ?_); rintro e W1 ⟨rfl, hb⟩; have H1 := Aside0.mk (H0.out.next hb); clear hb s0 s1 s2 s3)
        | (go_at_call 11; (with_reducible refine (awake_any _).mono ?_); rintro e W8 ⟨rfl, hb⟩; have HB8 := Aside0.mk (bl_next' H1.out.bel hb); clear hb))
      go_ret
      exact ⟨rfl, HB8.out⟩
    · have d3 : (f3 == 1) = false := by rw [beq_eq_false_iff_ne]; exact hf3
      clear hf3
      go_enter Try.func5, Try.ntmps5
      go_wp2_with (first
        | (go_at_call 16; (with_reducible refine (HFt.out _ H0.out).mono ?_); rintro e W1 ⟨rfl, hb⟩; have H1 := Aside0.mk (H0.out.next hb); clear hb s0 s1 s2 s3)
        | (go_at_call 11; (with_reducible refine (awake_any _).mono ?_); rintro e W8 ⟨rfl, hb⟩; have HB8 := Aside0.mk (bl_next' H1.out.bel hb); clear hb))
      go_ret
      exact ⟨rfl, HB8.out⟩
  · have hpos : 0 < lb.length := List.length_pos_iff.2 hne
    have hz : ((lb.length : Int) == 0) = false := by
      rw [beq_eq_false_iff_ne]
      omega
    clear hne
    by_cases hlg : largeB js ms 8 = true
    · have hft : faultT lo hi js ms = (0, false, 1) := by
        unfold faultT
        rw [large_net hlg]
        rfl
      rw [hft] at HFt
      rw [hlg] at HLg
      clear hft hlg hg hm hpos
      go_enter Try.func5, Try.ntmps5
      go_wp2_with (first
        | (go_at_call 10; (with_reducible refine (HLg.out _ H0.out).mono ?_); rintro e W1 ⟨rfl, hb⟩; have H1 := Aside0.mk (H0.out.next hb); clear hb s0 s1 s2 s3; have s0 := cell_two H1.out.blk 0 rfl; have s1 := cell_two H1.out.blk 1 rfl; have s2 := cell_two H1.out.blk 2 rfl; have s3 := cell_two H1.out.blk 3 rfl)
        | (go_at_call 16; (with_reducible refine (HFt.out _ H1.out).mono ?_); rintro e W2 ⟨rfl, hb⟩; have H2 := Aside0.mk (H1.out.next hb); clear hb s0 s1 s2 s3)
        | (go_at_call 11; (with_reducible refine (awake_any _).mono ?_); rintro e W8 ⟨rfl, hb⟩; have HB8 := Aside0.mk (bl_next' H2.out.bel hb); clear hb))
      go_ret
      exact ⟨rfl, HB8.out⟩
    · have hlf : largeB js ms 8 = false := by simpa using hlg
      have hl : js.length ≤ 9223372036854775806 ∧ ms.length ≤ 9223372036854775806 := by
        simp only [largeB, Bool.or_eq_false_iff, Bool.and_eq_false_iff, decide_eq_false_iff_not] at hlf
        omega
      rw [hlf] at HLg
      clear hlg hlf
      have HNet : Aside0 (∀ W, NetAt w W w.heap.size lo hi A c js A' c' ms → Calls Try.prog 23 #[.agg #[.int .i64 lo, .int .i64 hi, .slice A js.length c, .slice A' ms.length c']] W fun e w' => e = .returned (.bool (netB lo hi js ms)) ∧ Below W.heap.size W w') := ⟨fun W h => rNetwork_any lo hi A c js A' c' ms W h.jr hc h.mr hc' hl.1 hl.2⟩
      by_cases hn : netB lo hi js ms = true
      · have HOK := Aside0.mk (net_ok hn)
        rw [hn] at HNet
        have hft : (faultT lo hi js ms).2.2 = 0 ∨ (faultT lo hi js ms).2.2 = 4 := by
          unfold faultT
          rw [if_pos hn]
          split
          · exact .inl rfl
          · exact .inr rfl
        have hmj := HOK.out.ml
        have hjl := HOK.out.jl
        have HTr : Aside0 (∀ W, NetAt w W w.heap.size lo hi A c js A' c' ms → _) := ⟨fun W h => truth_any HOK.out (Ab := Ab) (cb := cb) (lb := lb) W h.jr hc h.mr hc' (Kd.C_below HBASE.out.2.2 h.bel) hcb hpos hm hg⟩
        have HFd : Aside0 (∀ (j : Nat) (W : World), j < js.length → NetAt w W w.heap.size lo hi A c js A' c' ms → Calls Try.prog 12 #[.agg #[.int .i64 lo, .int .i64 hi, .slice A js.length c, .slice A' ms.length c'], .int .i64 (j : Int)] W fun e w' => e = .returned (.tuple #[.int .i64 (statusP ms j), .int .i64 0]) ∧ Below W.heap.size W w') := ⟨fun j W hj h => by
          have h1 := Fed_any lo hi A c js A' c' ms (j : Int) W h.jr hc h.mr hc'
          have hwi : withinB (j : Int) 0 ((js.length : Int) - 1) = true := by
            simp only [withinB, Bool.and_eq_true, decide_eq_true_eq]
            omega
          unfold fedS at h1
          rw [if_pos hn, if_pos hwi, Int.toNat_natCast] at h1
          exact h1⟩
        have HPr : Aside0 (∀ (j : Nat) (W : World), j < js.length → NetAt w W w.heap.size lo hi A c js A' c' ms → Calls Try.prog 14 #[.agg #[.int .i64 lo, .int .i64 hi, .slice A js.length c, .slice A' ms.length c'], .int .i64 (j : Int)] W fun e w' => e = .returned (.tuple #[.agg #[.int .i64 (if statusP ms j = 0 then 0 else loP js ms lo j), .int .i64 (if statusP ms j = 0 then 0 else hiP js ms hi j)], .int .i64 (if statusP ms j = 0 then 4 else 0)]) ∧ Below W.heap.size W w') := ⟨fun j W hj h => by
          have h1 := Press_any lo hi A c js A' c' ms (j : Int) W h.jr hc h.mr hc'
          have hwi : withinB (j : Int) 0 ((js.length : Int) - 1) = true := by
            simp only [withinB, Bool.and_eq_true, decide_eq_true_eq]
            omega
          unfold pressS at h1
          rw [if_pos hn, if_pos hwi, Int.toNat_natCast] at h1
          by_cases hst : statusP ms j = 0
          · rw [if_pos hst] at h1
            rw [if_pos hst, if_pos hst, if_pos hst]
            exact h1
          · rw [if_neg hst] at h1
            rw [if_neg hst, if_neg hst, if_neg hst]
            exact h1⟩
        have HIs : Aside0 (∀ (s j : Nat) (W : World), s < 65536 → j < js.length → NetAt w W w.heap.size lo hi A c js A' c' ms → Calls Try.prog 25 #[.agg #[.int .i64 lo, .int .i64 hi, .slice A js.length c, .slice A' ms.length c'], .int .i64 (s : Int), .int .i64 (j : Int)] W fun e w' => e = .returned (.bool (PipeMath.fed (netM js ms) s.testBit j)) ∧ Below W.heap.size W w') := ⟨fun s j W hs hj h => gasworksref06_Is.calls 40 lo hi A c js A' c' ms (s : Int) (j : Int) _ W h.jr hc h.mr hc' (is_ok HOK.out hs j 40 (by omega) (by omega))⟩
        have HAt : Aside0 (∀ (s j : Nat) (d : List Int) (src : Int) (Ad : Option Addr) (cd : Nat) (W : World), s < 65536 → j < js.length → d.length ≤ cd → TruthOk lo hi js ms s d src → TuAt w W lo hi A c js A' c' ms Ad cd d → Calls Try.prog 26 #[.agg #[.int .i64 lo, .int .i64 hi, .slice A js.length c, .slice A' ms.length c'], .int .i64 (s : Int), .int .i64 (j : Int), .slice Ad d.length cd, .int .i64 src] W fun e w' => e = .returned (.int .i64 (PipeMath.at_ (netM js ms) s.testBit (fun j => rd d j) src j)) ∧ Below W.heap.size W w') := ⟨fun s j d src Ad cd W hs hj hcd ht h => gasworksref06_At.calls 200 lo hi A c js A' c' ms (s : Int) (j : Int) Ad cd d src _ W h.net.jr hc h.net.mr hc' h.dw hcd (at_ok HOK.out hs (ht.drawn HOK.out) (by have := ht.src; have := HOK.out.src; omega) (by have := ht.src; have := HOK.out.src; omega) j 200 (by omega) (by omega))⟩
        have HFF : Aside0 (∀ i b, faultT lo hi js ms = (i, b, 0) → (faultT lo hi js ms).1 = i ∧ (faultT lo hi js ms).2.2 = 0) := ⟨fun i b h => by rw [h]; exact ⟨rfl, rfl⟩⟩
        have HBad : Aside0 (∀ {s : Nat} {d : List Int} {src : Int}, TruthOk lo hi js ms s d src → ∀ {j : Nat}, j < js.length → PipeMath.fed (netM js ms) s.testBit j = true → (PipeMath.at_ (netM js ms) s.testBit (fun j => rd d j) src j < (rd_T50 js j).f1 ∨ (rd_T50 js j).f2 < PipeMath.at_ (netM js ms) s.testBit (fun j => rd d j) src j) → (faultT lo hi js ms).2.2 = 0 ∧ (faultT lo hi js ms).1 ≤ (j : Int)) := ⟨fun ht j hj hf hp => by
          obtain ⟨i, b, e, hi⟩ := true_bad HOK.out ht (by omega) hf hp
          rw [e]
          exact ⟨rfl, Int.ofNat_le.2 hi⟩⟩
        clear hn hg hm hpos hl
        generalize faultT lo hi js ms = ft at HFt hft HBad HFF
        clear HFF
        obtain ⟨f1, f2, f3⟩ := ft
        simp only at HFt hft HBad
        have HF3 := Aside0.mk hft
        clear hft
        go_enter Try.func5, Try.ntmps5
        go_wp2_with (first
          | (go_at_call 10; (with_reducible refine (HLg.out _ H0.out).mono ?_); rintro e W1 ⟨rfl, hb⟩; have H1 := Aside0.mk (H0.out.next hb); clear hb s0 s1 s2 s3; have s0 := cell_two H1.out.blk 0 rfl; have s1 := cell_two H1.out.blk 1 rfl; have s2 := cell_two H1.out.blk 2 rfl; have s3 := cell_two H1.out.blk 3 rfl)
          | (go_at_call 23; (with_reducible refine (HNet.out _ H1.out).mono ?_); rintro e W2 ⟨rfl, hb⟩; have H2 := Aside0.mk (H1.out.next hb); clear hb s0 s1 s2 s3; have s0 := cell_two H2.out.blk 0 rfl; have s1 := cell_two H2.out.blk 1 rfl; have s2 := cell_two H2.out.blk 2 rfl; have s3 := cell_two H2.out.blk 3 rfl)
          | (go_at_call 24; (with_reducible refine (HTr.out _ H2.out).mono ?_); rintro e W3 ⟨s, v, d, src, rfl, hR, hT, hb⟩; obtain ⟨Ad, cd, rfl⟩ := Kd.R_slice hR; have HT := Aside0.mk hT; have HV3 := Aside0.mk hR; have H3 := Aside0.mk (H2.out.next hb); clear hb hT hR s0 s1 s2 s3; have s0 := cell_two H3.out.blk 0 rfl; have s1 := cell_two H3.out.blk 1 rfl; have s2 := cell_two H3.out.blk 2 rfl; have s3 := cell_two H3.out.blk 3 rfl)
          | (go_at_call 16; (with_reducible refine (HFt.out _ H3.out).mono ?_); rintro e W4 ⟨rfl, hb⟩; have H4 := Aside0.mk (H3.out.next hb); have HV4 := Aside0.mk (Kd.R_below HV3.out hb); clear hb s0 s1 s2 s3))
        have HDC := Aside0.mk (own_C HV4.out)
        have H40 : Aside0 (TuAt w W4 lo hi A c js A' c' ms Ad cd d) := ⟨⟨H4.out, HDC.out.1⟩⟩
        have hs6 : s < 65536 := Nat.lt_of_lt_of_le HT.out.sl (Nat.le_trans (Nat.pow_le_pow_right (by decide) (by omega : ms.length ≤ 8)) (by decide))
        have HS6 := Aside0.mk hs6
        clear hs6 H1 H2 H3 H4 HV3 HV4
        go_loopw [14] (fun i wr => ∃ (j : Nat), i = .int .i64 (j : Int) ∧ j ≤ js.length ∧ Aside0 (TuAt w wr lo hi A c js A' c' ms Ad cd d)) (fun i _ => js.length - (intOf i).toNat)
        case atStart => exact ⟨0, rfl, by omega, H40⟩
        case round =>
          clear H40
          obtain ⟨j, rfl, hj, HL⟩ := hrel
          have s0 := cell_two HL.out.net.blk 0 rfl
          have s1 := cell_two HL.out.net.blk 1 rfl
          have s2 := cell_two HL.out.net.blk 2 rfl
          have s3 := cell_two HL.out.net.blk 3 rfl
          by_cases hlt : j < js.length
          · have hlt' : decide ((j : Int) < (js.length : Int)) = true := decide_eq_true (by omega)
            have k0 : (0 : Int) ≤ (j : Int) := Int.natCast_nonneg j
            have k1 : (j : Int) < (js.length : Int) := by omega
            have HIj : Aside0 (∀ W, NetAt w W w.heap.size lo hi A c js A' c' ms → Calls Try.prog 25 #[.agg #[.int .i64 lo, .int .i64 hi, .slice A js.length c, .slice A' ms.length c'], .int .i64 (s : Int), .int .i64 (j : Int)] W fun e w' => e = .returned (.bool (PipeMath.fed (netM js ms) s.testBit j)) ∧ Below W.heap.size W w') := ⟨fun W h => HIs.out s j W HS6.out hlt h⟩
            have HFj : Aside0 (∀ W, NetAt w W w.heap.size lo hi A c js A' c' ms → Calls Try.prog 12 #[.agg #[.int .i64 lo, .int .i64 hi, .slice A js.length c, .slice A' ms.length c'], .int .i64 (j : Int)] W fun e w' => e = .returned (.tuple #[.int .i64 (statusP ms j), .int .i64 0]) ∧ Below W.heap.size W w') := ⟨fun W h => HFd.out j W hlt h⟩
            have HPj : Aside0 (∀ W, NetAt w W w.heap.size lo hi A c js A' c' ms → Calls Try.prog 14 #[.agg #[.int .i64 lo, .int .i64 hi, .slice A js.length c, .slice A' ms.length c'], .int .i64 (j : Int)] W fun e w' => e = .returned (.tuple #[.agg #[.int .i64 (if statusP ms j = 0 then 0 else loP js ms lo j), .int .i64 (if statusP ms j = 0 then 0 else hiP js ms hi j)], .int .i64 (if statusP ms j = 0 then 4 else 0)]) ∧ Below W.heap.size W w') := ⟨fun W h => HPr.out j W hlt h⟩
            have hjm : j ≤ ms.length := by omega
            have HFY : Aside0 (PipeMath.fed (netM js ms) s.testBit j = true → statusP ms j ≠ 0) := ⟨true_fed HOK.out HT.out hjm⟩
            have HFN : Aside0 (PipeMath.fed (netM js ms) s.testBit j = false → statusP ms j ≠ 2) := ⟨true_unfed HOK.out HT.out hjm⟩
            cases hf : PipeMath.fed (netM js ms) s.testBit j
            · rw [hf] at HIj
              have hs2 := HFN.out hf
              generalize statusP ms j = st at HFj HPj hs2 HFY HFN
              clear HFY HFN hf
              have d2 : (st == 2) = false := by rw [beq_eq_false_iff_ne]; exact hs2
              by_cases h0 : st = 0
              · rw [if_pos h0, if_pos h0, if_pos h0] at HPj
                have d0 : (st == 0) = true := by rw [h0]; rfl
                have d1 : (st != 0) = false := by rw [h0]; rfl
                clear hs2 h0
                go_wp2_with (first
                | (go_at_call 12; (with_reducible refine (HFj.out _ HL.out.net).mono ?_); rintro e W5 ⟨rfl, hb⟩; have H5 := Aside0.mk (HL.out.next hb); clear hb s0 s1 s2 s3; have s0 := cell_two H5.out.net.blk 0 rfl; have s1 := cell_two H5.out.net.blk 1 rfl; have s2 := cell_two H5.out.net.blk 2 rfl; have s3 := cell_two H5.out.net.blk 3 rfl)
                | (go_at_call 14; (with_reducible refine (HPj.out _ H5.out.net).mono ?_); rintro e W6 ⟨rfl, hb⟩; have H6 := Aside0.mk ((H5.out.next hb).next (below_alloc (Below.refl _ _) (.cells #[.int .i64 0, .int .i64 0] 23))); have Q6 := Aside0.mk (blk_new W6 (.cells #[.int .i64 0, .int .i64 0] 23)); clear hb s0 s1 s2 s3; have s0 := cell_two H6.out.net.blk 0 rfl; have s1 := cell_two H6.out.net.blk 1 rfl; have s2 := cell_two H6.out.net.blk 2 rfl; have s3 := cell_two H6.out.net.blk 3 rfl)
                | (go_at_call 25; (with_reducible refine (HIj.out _ H6.out.net).mono ?_); rintro e W7 ⟨rfl, hb⟩; have H7 := Aside0.mk (H6.out.next hb); have Q7 := Aside0.mk (blk_below Q6.out hb); clear hb s0 s1 s2 s3; have s0 := cell_two H7.out.net.blk 0 rfl; have s1 := cell_two H7.out.net.blk 1 rfl; have s2 := cell_two H7.out.net.blk 2 rfl; have s3 := cell_two H7.out.net.blk 3 rfl))
                go_roundw
                case rel => exact ⟨j + 1, by go_num, by omega, H7⟩
                case measure => simp [intOf]; omega
              · rw [if_neg h0, if_neg h0, if_neg h0] at HPj
                have d0 : (st == 0) = false := by rw [beq_eq_false_iff_ne]; exact h0
                have d1 : (st != 0) = true := by rw [bne_iff_ne]; exact h0
                clear hs2 h0
                generalize loP js ms lo j = pl at HPj
                generalize hiP js ms hi j = ph at HPj
                go_wp2_with (first
                | (go_at_call 12; (with_reducible refine (HFj.out _ HL.out.net).mono ?_); rintro e W5 ⟨rfl, hb⟩; have H5 := Aside0.mk (HL.out.next hb); clear hb s0 s1 s2 s3; have s0 := cell_two H5.out.net.blk 0 rfl; have s1 := cell_two H5.out.net.blk 1 rfl; have s2 := cell_two H5.out.net.blk 2 rfl; have s3 := cell_two H5.out.net.blk 3 rfl)
                | (go_at_call 14; (with_reducible refine (HPj.out _ H5.out.net).mono ?_); rintro e W6 ⟨rfl, hb⟩; have H6 := Aside0.mk ((H5.out.next hb).next (below_alloc (Below.refl _ _) (.cells #[.int .i64 pl, .int .i64 ph] 23))); have Q6 := Aside0.mk (blk_new W6 (.cells #[.int .i64 pl, .int .i64 ph] 23)); clear hb s0 s1 s2 s3; have s0 := cell_two H6.out.net.blk 0 rfl; have s1 := cell_two H6.out.net.blk 1 rfl; have s2 := cell_two H6.out.net.blk 2 rfl; have s3 := cell_two H6.out.net.blk 3 rfl)
                | (go_at_call 25; (with_reducible refine (HIj.out _ H6.out.net).mono ?_); rintro e W7 ⟨rfl, hb⟩; have H7 := Aside0.mk (H6.out.next hb); have Q7 := Aside0.mk (blk_below Q6.out hb); clear hb s0 s1 s2 s3; have s0 := cell_two H7.out.net.blk 0 rfl; have s1 := cell_two H7.out.net.blk 1 rfl; have s2 := cell_two H7.out.net.blk 2 rfl; have s3 := cell_two H7.out.net.blk 3 rfl))
                go_roundw
                case rel => exact ⟨j + 1, by go_num, by omega, H7⟩
                case measure => simp [intOf]; omega
            · rw [hf] at HIj
              have h0 := HFY.out hf
              have HAj : Aside0 (∀ W, TuAt w W lo hi A c js A' c' ms Ad cd d → _) := ⟨fun W h => HAt.out s j d src Ad cd W HS6.out hlt HDC.out.2 HT.out h⟩
              have hlo := true_lo HOK.out HT.out hjm
              have hhi := true_hi HOK.out HT.out hjm hf
              have HBj : Aside0 (PipeMath.at_ (netM js ms) s.testBit (fun j => rd d j) src j < (rd_T50 js (j : Int)).f1 ∨ (rd_T50 js (j : Int)).f2 < PipeMath.at_ (netM js ms) s.testBit (fun j => rd d j) src j → f3 = 0 ∧ f1 ≤ (j : Int)) := ⟨fun h => HBad.out HT.out hlt hf h⟩
              rw [if_neg h0, if_neg h0, if_neg h0] at HPj
              generalize statusP ms j = st at HFj h0 HFY HFN
              generalize loP js ms lo j = pl at HPj hlo
              generalize hiP js ms hi j = ph at HPj hhi
              generalize PipeMath.at_ (netM js ms) s.testBit (fun j => rd d j) src j = pr at HAj hlo hhi HBj
              have d0 : (st == 0) = false := by rw [beq_eq_false_iff_ne]; exact h0
              have d1 : (st != 0) = true := by rw [bne_iff_ne]; exact h0
              have dl : decide (pr < pl) = false := decide_eq_false (by omega)
              have dh : decide (ph < pr) = false := decide_eq_false (by omega)
              obtain ⟨n0, h00⟩ : ∃ x, (rd_T50 js (j : Int)).f0.f0 = x := ⟨_, rfl⟩
              obtain ⟨n1, h01⟩ : ∃ x, (rd_T50 js (j : Int)).f0.f1 = x := ⟨_, rfl⟩
              obtain ⟨y1, h02⟩ : ∃ x, (rd_T50 js (j : Int)).f1 = x := ⟨_, rfl⟩
              obtain ⟨y2, h03⟩ : ∃ x, (rd_T50 js (j : Int)).f2 = x := ⟨_, rfl⟩
              obtain ⟨y3, h04⟩ : ∃ x, (rd_T50 js (j : Int)).f3 = x := ⟨_, rfl⟩
              rw [h02, h03] at HBj
              have HY := Aside0.mk (And.intro h00 (And.intro h01 (And.intro h02 (And.intro h03 h04))))
              clear h0 h00 h01 h02 h03 h04 hlo hhi hf HFY HFN
              by_cases hb1 : pr < y1
              · have db1 : decide (pr < y1) = true := decide_eq_true hb1
                have hfb := HBj.out (.inl hb1)
                have df3 : (f3 != 0) = false := by rw [hfb.1]; rfl
                have dfj : decide ((j : Int) < f1) = false := decide_eq_false (by omega)
                clear hb1 hfb
                go_wp2_with (first
                | (go_at_call 12; (with_reducible refine (HFj.out _ HL.out.net).mono ?_); rintro e W5 ⟨rfl, hb⟩; have H5 := Aside0.mk (HL.out.next hb); clear hb s0 s1 s2 s3; have s0 := cell_two H5.out.net.blk 0 rfl; have s1 := cell_two H5.out.net.blk 1 rfl; have s2 := cell_two H5.out.net.blk 2 rfl; have s3 := cell_two H5.out.net.blk 3 rfl)
                | (go_at_call 14; (with_reducible refine (HPj.out _ H5.out.net).mono ?_); rintro e W6 ⟨rfl, hb⟩; have H6 := Aside0.mk ((H5.out.next hb).next (below_alloc (Below.refl _ _) (.cells #[.int .i64 pl, .int .i64 ph] 23))); have Q6 := Aside0.mk (blk_new W6 (.cells #[.int .i64 pl, .int .i64 ph] 23)); clear hb s0 s1 s2 s3; have s0 := cell_two H6.out.net.blk 0 rfl; have s1 := cell_two H6.out.net.blk 1 rfl; have s2 := cell_two H6.out.net.blk 2 rfl; have s3 := cell_two H6.out.net.blk 3 rfl)
                | (go_at_call 25; (with_reducible refine (HIj.out _ H6.out.net).mono ?_); rintro e W7 ⟨rfl, hb⟩; have H7 := Aside0.mk (H6.out.next hb); have Q7 := Aside0.mk (blk_below Q6.out hb); clear hb s0 s1 s2 s3; have s0 := cell_two H7.out.net.blk 0 rfl; have s1 := cell_two H7.out.net.blk 1 rfl; have s2 := cell_two H7.out.net.blk 2 rfl; have s3 := cell_two H7.out.net.blk 3 rfl)
                | (go_at_call 26; (with_reducible refine (HAj.out _ H7.out).mono ?_); rintro e W8 ⟨rfl, hb⟩; have H8 := Aside0.mk (H7.out.next hb); have Q8 := Aside0.mk (blk_below Q7.out hb); clear hb s0 s1 s2 s3; have s2 := cell_two H8.out.net.blk 2 rfl; obtain ⟨ad, e, g0, g1, g2, g3, g4⟩ := at_T50 H8.out.net.jr (j : Int) k0 k1; subst e; simp only [Int.toNat_natCast] at g0 g1 g2 g3 g4; rw [HY.out.1] at g0; rw [HY.out.2.1] at g1; rw [HY.out.2.2.1] at g2; rw [HY.out.2.2.2.1] at g3; rw [HY.out.2.2.2.2] at g4; have Q9 := Aside0.mk (blk_alloc Q8.out (.cells #[.int .i64 n0, .int .i64 n1, .int .i64 y1, .int .i64 y2, .int .i64 y3] 50)); have R9 := Aside0.mk (blk_new W8 (.cells #[.int .i64 n0, .int .i64 n1, .int .i64 y1, .int .i64 y2, .int .i64 y3] 50)); have q0 := cell_two Q9.out 0 rfl; have q1 := cell_two Q9.out 1 rfl; have r1 := cell_two R9.out 2 rfl; have r2 := cell_two R9.out 3 rfl; have H9 := Aside0.mk (H8.out.next (below_alloc (Below.refl _ _) (.cells #[.int .i64 n0, .int .i64 n1, .int .i64 y1, .int .i64 y2, .int .i64 y3] 50)))))
                go_roundw
                case rel => exact ⟨j + 1, by go_num, by omega, H9⟩
                case measure => simp [intOf]; omega
              · have db1 : decide (pr < y1) = false := decide_eq_false hb1
                by_cases hb2 : y2 < pr
                · have db2 : decide (y2 < pr) = true := decide_eq_true hb2
                  have hfb := HBj.out (.inr hb2)
                  have df3 : (f3 != 0) = false := by rw [hfb.1]; rfl
                  have dfj : decide ((j : Int) < f1) = false := decide_eq_false (by omega)
                  clear hb1 hb2 hfb
                  go_wp2_with (first
                | (go_at_call 12; (with_reducible refine (HFj.out _ HL.out.net).mono ?_); rintro e W5 ⟨rfl, hb⟩; have H5 := Aside0.mk (HL.out.next hb); clear hb s0 s1 s2 s3; have s0 := cell_two H5.out.net.blk 0 rfl; have s1 := cell_two H5.out.net.blk 1 rfl; have s2 := cell_two H5.out.net.blk 2 rfl; have s3 := cell_two H5.out.net.blk 3 rfl)
                | (go_at_call 14; (with_reducible refine (HPj.out _ H5.out.net).mono ?_); rintro e W6 ⟨rfl, hb⟩; have H6 := Aside0.mk ((H5.out.next hb).next (below_alloc (Below.refl _ _) (.cells #[.int .i64 pl, .int .i64 ph] 23))); have Q6 := Aside0.mk (blk_new W6 (.cells #[.int .i64 pl, .int .i64 ph] 23)); clear hb s0 s1 s2 s3; have s0 := cell_two H6.out.net.blk 0 rfl; have s1 := cell_two H6.out.net.blk 1 rfl; have s2 := cell_two H6.out.net.blk 2 rfl; have s3 := cell_two H6.out.net.blk 3 rfl)
                | (go_at_call 25; (with_reducible refine (HIj.out _ H6.out.net).mono ?_); rintro e W7 ⟨rfl, hb⟩; have H7 := Aside0.mk (H6.out.next hb); have Q7 := Aside0.mk (blk_below Q6.out hb); clear hb s0 s1 s2 s3; have s0 := cell_two H7.out.net.blk 0 rfl; have s1 := cell_two H7.out.net.blk 1 rfl; have s2 := cell_two H7.out.net.blk 2 rfl; have s3 := cell_two H7.out.net.blk 3 rfl)
                | (go_at_call 26; (with_reducible refine (HAj.out _ H7.out).mono ?_); rintro e W8 ⟨rfl, hb⟩; have H8 := Aside0.mk (H7.out.next hb); have Q8 := Aside0.mk (blk_below Q7.out hb); clear hb s0 s1 s2 s3; have s2 := cell_two H8.out.net.blk 2 rfl; obtain ⟨ad, e, g0, g1, g2, g3, g4⟩ := at_T50 H8.out.net.jr (j : Int) k0 k1; subst e; simp only [Int.toNat_natCast] at g0 g1 g2 g3 g4; rw [HY.out.1] at g0; rw [HY.out.2.1] at g1; rw [HY.out.2.2.1] at g2; rw [HY.out.2.2.2.1] at g3; rw [HY.out.2.2.2.2] at g4; have Q9 := Aside0.mk (blk_alloc Q8.out (.cells #[.int .i64 n0, .int .i64 n1, .int .i64 y1, .int .i64 y2, .int .i64 y3] 50)); have R9 := Aside0.mk (blk_new W8 (.cells #[.int .i64 n0, .int .i64 n1, .int .i64 y1, .int .i64 y2, .int .i64 y3] 50)); have q0 := cell_two Q9.out 0 rfl; have q1 := cell_two Q9.out 1 rfl; have r1 := cell_two R9.out 2 rfl; have r2 := cell_two R9.out 3 rfl; have H9 := Aside0.mk (H8.out.next (below_alloc (Below.refl _ _) (.cells #[.int .i64 n0, .int .i64 n1, .int .i64 y1, .int .i64 y2, .int .i64 y3] 50)))))
                  go_roundw
                  case rel => exact ⟨j + 1, by go_num, by omega, H9⟩
                  case measure => simp [intOf]; omega
                · have db2 : decide (y2 < pr) = false := decide_eq_false hb2
                  clear hb1 hb2
                  go_wp2_with (first
                | (go_at_call 12; (with_reducible refine (HFj.out _ HL.out.net).mono ?_); rintro e W5 ⟨rfl, hb⟩; have H5 := Aside0.mk (HL.out.next hb); clear hb s0 s1 s2 s3; have s0 := cell_two H5.out.net.blk 0 rfl; have s1 := cell_two H5.out.net.blk 1 rfl; have s2 := cell_two H5.out.net.blk 2 rfl; have s3 := cell_two H5.out.net.blk 3 rfl)
                | (go_at_call 14; (with_reducible refine (HPj.out _ H5.out.net).mono ?_); rintro e W6 ⟨rfl, hb⟩; have H6 := Aside0.mk ((H5.out.next hb).next (below_alloc (Below.refl _ _) (.cells #[.int .i64 pl, .int .i64 ph] 23))); have Q6 := Aside0.mk (blk_new W6 (.cells #[.int .i64 pl, .int .i64 ph] 23)); clear hb s0 s1 s2 s3; have s0 := cell_two H6.out.net.blk 0 rfl; have s1 := cell_two H6.out.net.blk 1 rfl; have s2 := cell_two H6.out.net.blk 2 rfl; have s3 := cell_two H6.out.net.blk 3 rfl)
                | (go_at_call 25; (with_reducible refine (HIj.out _ H6.out.net).mono ?_); rintro e W7 ⟨rfl, hb⟩; have H7 := Aside0.mk (H6.out.next hb); have Q7 := Aside0.mk (blk_below Q6.out hb); clear hb s0 s1 s2 s3; have s0 := cell_two H7.out.net.blk 0 rfl; have s1 := cell_two H7.out.net.blk 1 rfl; have s2 := cell_two H7.out.net.blk 2 rfl; have s3 := cell_two H7.out.net.blk 3 rfl)
                | (go_at_call 26; (with_reducible refine (HAj.out _ H7.out).mono ?_); rintro e W8 ⟨rfl, hb⟩; have H8 := Aside0.mk (H7.out.next hb); have Q8 := Aside0.mk (blk_below Q7.out hb); clear hb s0 s1 s2 s3; have s2 := cell_two H8.out.net.blk 2 rfl; obtain ⟨ad, e, g0, g1, g2, g3, g4⟩ := at_T50 H8.out.net.jr (j : Int) k0 k1; subst e; simp only [Int.toNat_natCast] at g0 g1 g2 g3 g4; rw [HY.out.1] at g0; rw [HY.out.2.1] at g1; rw [HY.out.2.2.1] at g2; rw [HY.out.2.2.2.1] at g3; rw [HY.out.2.2.2.2] at g4; have Q9 := Aside0.mk (blk_alloc Q8.out (.cells #[.int .i64 n0, .int .i64 n1, .int .i64 y1, .int .i64 y2, .int .i64 y3] 50)); have R9 := Aside0.mk (blk_new W8 (.cells #[.int .i64 n0, .int .i64 n1, .int .i64 y1, .int .i64 y2, .int .i64 y3] 50)); have q0 := cell_two Q9.out 0 rfl; have q1 := cell_two Q9.out 1 rfl; have r1 := cell_two R9.out 2 rfl; have r2 := cell_two R9.out 3 rfl; have H9 := Aside0.mk (H8.out.next (below_alloc (Below.refl _ _) (.cells #[.int .i64 n0, .int .i64 n1, .int .i64 y1, .int .i64 y2, .int .i64 y3] 50)))))
                  go_roundw
                  case rel => exact ⟨j + 1, by go_num, by omega, H9⟩
                  case measure => simp [intOf]; omega
          · have hlt' : decide ((j : Int) < (js.length : Int)) = false := decide_eq_false (by omega)
            rcases HF3.out with h3 | h3
            · have d3 : (f3 == 0) = true := by rw [h3]; rfl
              clear h3
              go_wp2_with (go_at_call 11; (with_reducible refine (awake_any _).mono ?_); rintro e W9 ⟨rfl, hb⟩; have HB9 := Aside0.mk (bl_next' HL.out.net.bel hb); clear hb)
              go_ret
              exact ⟨rfl, HB9.out⟩
            · have d3 : (f3 == 0) = false := by rw [h3]; rfl
              have d4 : (f3 == 4) = true := by rw [h3]; rfl
              clear h3
              go_wp2_with (go_at_call 11; (with_reducible refine (awake_any _).mono ?_); rintro e W9 ⟨rfl, hb⟩; have HB9 := Aside0.mk (bl_next' HL.out.net.bel hb); clear hb)
              go_ret
              exact ⟨rfl, HB9.out⟩
      · have hn' : netB lo hi js ms = false := by simpa using hn
        have hft : faultT lo hi js ms = (0, false, 1) := by
          unfold faultT
          rw [hn']
          rfl
        rw [hft] at HFt
        rw [hn'] at HNet
        clear hft hn hn' hg hm hpos hl
        go_enter Try.func5, Try.ntmps5
        go_wp2_with (first
          | (go_at_call 10; (with_reducible refine (HLg.out _ H0.out).mono ?_); rintro e W1 ⟨rfl, hb⟩; have H1 := Aside0.mk (H0.out.next hb); clear hb s0 s1 s2 s3; have s0 := cell_two H1.out.blk 0 rfl; have s1 := cell_two H1.out.blk 1 rfl; have s2 := cell_two H1.out.blk 2 rfl; have s3 := cell_two H1.out.blk 3 rfl)
          | (go_at_call 23; (with_reducible refine (HNet.out _ H1.out).mono ?_); rintro e W2 ⟨rfl, hb⟩; have H2 := Aside0.mk (H1.out.next hb); clear hb s0 s1 s2 s3; have s0 := cell_two H2.out.blk 0 rfl; have s1 := cell_two H2.out.blk 1 rfl; have s2 := cell_two H2.out.blk 2 rfl; have s3 := cell_two H2.out.blk 3 rfl)
          | (go_at_call 16; (with_reducible refine (HFt.out _ H2.out).mono ?_); rintro e W3 ⟨rfl, hb⟩; have H3 := Aside0.mk (H2.out.next hb); clear hb s0 s1 s2 s3)
          | (go_at_call 11; (with_reducible refine (awake_any _).mono ?_); rintro e W8 ⟨rfl, hb⟩; have HB8 := Aside0.mk (bl_next' H3.out.bel hb); clear hb))
        go_ret
        exact ⟨rfl, HB8.out⟩
end Go.Proofs.Ytbjinkkmakhbaaa.Print
