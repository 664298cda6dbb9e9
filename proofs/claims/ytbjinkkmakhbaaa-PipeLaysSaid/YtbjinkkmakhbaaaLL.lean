/- The law PipeLays, walked. -/
import Derived.Test.YtbjinkkmakhbaaaRZ
import Derived.Test.YtbjinkkmakhbaaaLP
namespace Go.Proofs.Ytbjinkkmakhbaaa.Print
open Go.RowKit Go.Shelf Go.Proofs.YtbjinkkmakhbaaaW.PrintWords Go.Proofs.YtbjinkkmakhbaaaW.PrintLast Go.Proofs.YtbjinkkmakhbaaaW.PrintMore
set_option linter.unusedVariables false
set_option linter.unusedSimpArgs false
attribute [local go_sem] Oper.semAt_some
theorem ints_l0 {l : List Int} (hl : l.length ≤ 300) : ∀ (d i k : Nat), i + d = l.length → d < k → gasworksref06_Ints.l0 k l l (i : Int) = some true
  | 0, i, k, h, hk => by
    obtain ⟨k, rfl⟩ : ∃ k', k = k' + 1 := ⟨k - 1, by omega⟩
    rw [gasworksref06_Ints.l0, if_neg (by omega)]
  | d + 1, i, k, h, hk => by
    obtain ⟨k, rfl⟩ : ∃ k', k = k' + 1 := ⟨k - 1, by omega⟩
    have hw : wrap64 ((i : Int) + 1) = ((i + 1 : Nat) : Int) := by rw [w64 (by omega) (by omega)]; omega
    rw [gasworksref06_Ints.l0, if_pos (by omega), if_pos (by omega), if_pos (by omega), if_pos rfl, hw]
    exact ints_l0 hl d (i + 1) k (by omega) (by omega)
theorem ints_same {l : List Int} (hl : l.length ≤ 300) : gasworksref06_Ints.f 400 l l = some true := by
  rw [gasworksref06_Ints.f, if_pos rfl]
  exact ints_l0 hl l.length 0 400 (by omega) (by omega)
theorem lay_len (lo hi : Int) (js : List S50) (ms : List S54) : (layS lo hi js ms).1.length ≤ 300 := by
  unfold layS
  split
  · split
    · simp
    · exact Nat.le_trans (listL_len _ _) (by decide)
  · simp
theorem must_len (lo hi : Int) (js : List S50) (ms : List S54) : (mustR lo hi js ms).1.length ≤ 300 := by
  unfold mustR
  split
  · split
    · simp
    · exact Nat.le_trans (listL_len _ _) (by decide)
  · simp
set_option maxHeartbeats 8000000 in
set_option maxRecDepth 100000 in
theorem lays_walk (lo hi : Int) (A : Option Addr) (c : Nat) (js : List S50) (A' : Option Addr) (c' : Nat) (ms : List S54) (w : World) (hr : Kd.C k50 w A js.length js) (hc : js.length ≤ c) (hr' : Kd.C k54 w A' ms.length ms) (hc' : ms.length ≤ c') :
    Calls Try.prog 4 #[.agg #[.int .i64 lo, .int .i64 hi, .slice A js.length c, .slice A' ms.length c']] w fun e w' => e = .returned (.bool true) ∧ Below w.heap.size w w' := by
  have H0 : Aside0 (NetAt w (w.alloc (.cells (netC lo hi A js.length c A' ms.length c') 27)) w.heap.size lo hi A c js A' c' ms) := ⟨⟨blk_new w _, Kd.C_alloc hr _, Kd.C_alloc hr' _, below_alloc (Below.refl _ _) _⟩⟩
  have s0 := cell_two H0.out.blk 0 rfl
  have s1 := cell_two H0.out.blk 1 rfl
  have s2 := cell_two H0.out.blk 2 rfl
  have s3 := cell_two H0.out.blk 3 rfl
  have HLg : Aside0 (∀ W, NetAt w W w.heap.size lo hi A c js A' c' ms → Calls Try.prog 10 #[.agg #[.int .i64 lo, .int .i64 hi, .slice A js.length c, .slice A' ms.length c'], .int .i64 5] W fun e w' => e = .returned (.bool (largeB js ms 5)) ∧ Below W.heap.size W w') := ⟨fun W h => large_any lo hi A c js A' c' ms 5 W h.jr hc h.mr hc'⟩
  clear hr hr'
  by_cases hlg : largeB js ms 5 = true
  · rw [hlg] at HLg
    clear hlg
    go_enter Try.func4, Try.ntmps4
    go_wp2_with (first
      | (go_at_call 10; (with_reducible refine (HLg.out _ H0.out).mono ?_); rintro e W1 ⟨rfl, hb⟩; have H1 := Aside0.mk (H0.out.next hb); clear hb s0 s1 s2 s3)
      | (go_at_call 11; (with_reducible refine (awake_any _).mono ?_); rintro e W2 ⟨rfl, hb⟩; have HB2 := Aside0.mk (bl_next' H1.out.bel hb); clear hb))
    go_ret
    exact ⟨rfl, HB2.out⟩
  · have hlf : largeB js ms 5 = false := by simpa using hlg
    have hl : js.length ≤ 9223372036854775806 ∧ ms.length ≤ 9223372036854775806 := by
      simp only [largeB, Bool.or_eq_false_iff, Bool.and_eq_false_iff, decide_eq_false_iff_not] at hlf
      omega
    rw [hlf] at HLg
    clear hlg hlf
    have HFd : Aside0 (∀ W, NetAt w W w.heap.size lo hi A c js A' c' ms → _) := ⟨fun W h => Lay_any lo hi A c js A' c' ms W h.jr hc h.mr hc'⟩
    have HFr : Aside0 (∀ W, NetAt w W w.heap.size lo hi A c js A' c' ms → _) := ⟨fun W h => rLay_any lo hi A c js A' c' ms W h.jr hc h.mr hc' hl.1 hl.2⟩
    have HMd : Aside0 (∀ W, NetAt w W w.heap.size lo hi A c js A' c' ms → _) := ⟨fun W h => Must_any lo hi A c js A' c' ms W h.jr hc h.mr hc'⟩
    have HMr : Aside0 (∀ W, NetAt w W w.heap.size lo hi A c js A' c' ms → _) := ⟨fun W h => rMust_any lo hi A c js A' c' ms W h.jr hc h.mr hc' hl.1 hl.2⟩
    have hla := lay_len lo hi js ms
    have hma := must_len lo hi js ms
    generalize layS lo hi js ms = ly at HFd HFr hla
    generalize mustR lo hi js ms = mu at HMd HMr hma
    obtain ⟨y1, y2, y3⟩ := ly
    obtain ⟨m1, m2⟩ := mu
    simp only at HFd HFr HMd HMr hla hma
    have HIy := Aside0.mk (ints_same hla)
    have HIm := Aside0.mk (ints_same hma)
    clear hla hma hl
    go_enter Try.func4, Try.ntmps4
    go_wp2_with (first
      | (go_at_call 10; (with_reducible refine (HLg.out _ H0.out).mono ?_); rintro e W1 ⟨rfl, hb⟩; have H1 := Aside0.mk (H0.out.next hb); clear hb s0 s1 s2 s3; have s0 := cell_two H1.out.blk 0 rfl; have s1 := cell_two H1.out.blk 1 rfl; have s2 := cell_two H1.out.blk 2 rfl; have s3 := cell_two H1.out.blk 3 rfl)
      | (go_at_call 18; (with_reducible refine (HFd.out _ H1.out).mono ?_); rintro e W2 ⟨v, rfl, hR, hb⟩; obtain ⟨A2, c2, rfl⟩ := Kd.R_slice hR; have V2 := Aside0.mk hR; have H2 := Aside0.mk (H1.out.next hb); clear hR hb s0 s1 s2 s3; have s0 := cell_two H2.out.blk 0 rfl; have s1 := cell_two H2.out.blk 1 rfl; have s2 := cell_two H2.out.blk 2 rfl; have s3 := cell_two H2.out.blk 3 rfl)
      | (go_at_call 19; (with_reducible refine (HFr.out _ H2.out).mono ?_); rintro e W3 ⟨v, rfl, hR, hb⟩; obtain ⟨A3, c3, rfl⟩ := Kd.R_slice hR; have V3 := Aside0.mk hR; have U3 := Aside0.mk (Kd.R_below V2.out hb); have H3 := Aside0.mk (H2.out.next hb); clear hR hb s0 s1 s2 s3; have s0 := cell_two H3.out.blk 0 rfl; have s1 := cell_two H3.out.blk 1 rfl; have s2 := cell_two H3.out.blk 2 rfl; have s3 := cell_two H3.out.blk 3 rfl)
      | (go_at_call 20; (with_reducible refine (HMd.out _ H3.out).mono ?_); rintro e W4 ⟨v, rfl, hR, hb⟩; obtain ⟨A4, c4, rfl⟩ := Kd.R_slice hR; have X4 := Aside0.mk hR; have V4 := Aside0.mk (Kd.R_below V3.out hb); have U4 := Aside0.mk (Kd.R_below U3.out hb); have H4 := Aside0.mk (H3.out.next hb); clear hR hb s0 s1 s2 s3; have s0 := cell_two H4.out.blk 0 rfl; have s1 := cell_two H4.out.blk 1 rfl; have s2 := cell_two H4.out.blk 2 rfl; have s3 := cell_two H4.out.blk 3 rfl)
      | (go_at_call 21; (with_reducible refine (HMr.out _ H4.out).mono ?_); rintro e W5 ⟨v, rfl, hR, hb⟩; obtain ⟨A5, c5, rfl⟩ := Kd.R_slice hR; have Y5 := Aside0.mk hR; have X5 := Aside0.mk (Kd.R_below X4.out hb); have V5 := Aside0.mk (Kd.R_below V4.out hb); have U5 := Aside0.mk (Kd.R_below U4.out hb); have H5 := Aside0.mk (H4.out.next hb); clear hR hb s0 s1 s2 s3)
      | (go_at_call 22; have hgu := H6.out; clear hgu; (with_reducible refine (gasworksref06_Ints.calls 400 _ _ m1 _ _ m1 true _ (C_own X6.out).1 (C_own X6.out).2 (C_own Y6.out).1 (C_own Y6.out).2 HIm.out).mono ?_); rintro e W7 ⟨rfl, hd⟩; have H7 := Aside0.mk (H6.out.next hd.below); clear hd)
      | (go_at_call 22; (with_reducible refine (gasworksref06_Ints.calls 400 _ _ y1 _ _ y1 true _ (C_own U5.out).1 (C_own U5.out).2 (C_own V5.out).1 (C_own V5.out).2 HIy.out).mono ?_); rintro e W6 ⟨rfl, hd⟩; have H6 := Aside0.mk (H5.out.next hd.below); have X6 := Aside0.mk (Kd.R_below X5.out hd.below); have Y6 := Aside0.mk (Kd.R_below Y5.out hd.below); clear hd)
      | (go_at_call 11; (with_reducible refine (awake_any _).mono ?_); rintro e W8 ⟨rfl, hb⟩; have HB8 := Aside0.mk (bl_next' H7.out.bel hb); clear hb))
    go_ret
    exact ⟨rfl, HB8.out⟩
end Go.Proofs.Ytbjinkkmakhbaaa.Print
