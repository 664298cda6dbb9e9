/- Lean functions and contracts of Go functions of this claim, printed by a program of this session out of the translation. -/
import Derived.Test.YtbjinkkmakhbaaaPrint0
import Derived.Test.YtbjinkkmakhbaaaAW
namespace Go.Proofs.Ytbjinkkmakhbaaa.Print
open Go.RowKit Go.Proofs.YtbjinkkmakhbaaaW.PrintWords Go.Proofs.YtbjinkkmakhbaaaW.PrintLast Go.Proofs.YtbjinkkmakhbaaaW.PrintMore
attribute [local go_sem] max2_int min2_int max_two min_two max_three min_three max_four min_four   -- for this text's walks alone
set_option linter.unusedVariables false
set_option linter.unusedSimpArgs false

theorem eqA23 (d : Nat) (w : World) (x0 y0 : Int) (x1 y1 : Int) :
    (Op.equalIn (d + 2) 23 (.agg #[.int .i64 x0, .int .i64 x1]) (.agg #[.int .i64 y0, .int .i64 y1])).run Try.prog w = .ok (x0 == y0 && (x1 == y1)) w := by
  refine eqA_of Try.underlying23 (by kernel_rfl) ?_
  refine eqf_cons (by rfl) (by go_simp; rfl) (by go_simp; rfl) (by go_simp) ?_
  exact eqf_last (by rfl) (by go_simp; rfl) (by go_simp; rfl) (by go_simp)
end Go.Proofs.Ytbjinkkmakhbaaa.Print

namespace Go.Proofs.Ytbjinkkmakhbaaa.Print
open Go.RowKit Go.Shelf Go.Proofs.YtbjinkkmakhbaaaW.PrintWords Go.Proofs.YtbjinkkmakhbaaaW.PrintLast Go.Proofs.YtbjinkkmakhbaaaW.PrintMore
set_option linter.unusedVariables false
set_option linter.unusedSimpArgs false
attribute [local go_sem] Oper.semAt_some
/-- Are there more mains than a statement looks at, or far too many of something? -/
def largeB (js : List S50) (ms : List S54) (m : Int) : Bool := (decide ((ms.length : Int) > m) && decide ((ms.length : Int) ≤ 8)) || decide ((ms.length : Int) > 12) || decide ((js.length : Int) > 13)
theorem large_f (lo hi : Int) (js : List S50) (ms : List S54) (m : Int) : gasworkslaw06_large.f lo hi js ms m = some (largeB js ms m) := by
  unfold gasworkslaw06_large.f largeB
  by_cases h1 : (ms.length : Int) > m
  · by_cases h2 : (ms.length : Int) ≤ 8
    · simp [h1, h2]
    · by_cases h3 : (ms.length : Int) > 12
      · simp [h1, h2, h3]
      · simp [h1, h2, h3]
  · by_cases h3 : (ms.length : Int) > 12
    · simp [h1, h3]
    · simp [h1, h3]
theorem large_any (lo hi : Int) (A : Option Addr) (c : Nat) (js : List S50) (A' : Option Addr) (c' : Nat) (ms : List S54) (m : Int) (w : World) (hr : Kd.C k50 w A js.length js) (hc : js.length ≤ c) (hr' : Kd.C k54 w A' ms.length ms) (hc' : ms.length ≤ c') :
    Calls Try.prog 10 #[.agg #[.int .i64 lo, .int .i64 hi, .slice A js.length c, .slice A' ms.length c'], .int .i64 m] w fun e w' => e = .returned (.bool (largeB js ms m)) ∧ Below w.heap.size w w' :=
  gasworkslaw06_large.calls lo hi A c js A' c' ms m _ w hr hc hr' hc' (large_f lo hi js ms m)
theorem eq23 (W : World) (a b : Int) : (Op.equalIn 10000 23 (.agg #[.int .i64 a, .int .i64 b]) (.agg #[.int .i64 a, .int .i64 b])).run Try.prog W = .ok true W := by
  have := eqA23 9998 W a a b b
  simpa using this
set_option maxHeartbeats 8000000 in
set_option maxRecDepth 100000 in
theorem press_walk (lo hi : Int) (A : Option Addr) (c : Nat) (js : List S50) (A' : Option Addr) (c' : Nat) (ms : List S54) (j : Int) (w : World) (hr : Kd.C k50 w A js.length js) (hc : js.length ≤ c) (hr' : Kd.C k54 w A' ms.length ms) (hc' : ms.length ≤ c') (hjw : (Lit.int .i64 j).wf = true) :
    Calls Try.prog 3 #[.agg #[.int .i64 lo, .int .i64 hi, .slice A js.length c, .slice A' ms.length c'], .int .i64 j] w fun e w' => e = .returned (.bool true) ∧ Below w.heap.size w w' := by
  have hm := Kd.C_max hr
  have hm' := Kd.C_max hr'
  have H0 : Aside0 (NetAt w (w.alloc (.cells (netC lo hi A js.length c A' ms.length c') 27)) w.heap.size lo hi A c js A' c' ms) := ⟨⟨blk_new w _, Kd.C_alloc hr _, Kd.C_alloc hr' _, below_alloc (Below.refl _ _) _⟩⟩
  have s0 := cell_two H0.out.blk 0 rfl
  have s1 := cell_two H0.out.blk 1 rfl
  have s2 := cell_two H0.out.blk 2 rfl
  have s3 := cell_two H0.out.blk 3 rfl
  have HLg : Aside0 (∀ W, NetAt w W w.heap.size lo hi A c js A' c' ms → Calls Try.prog 10 #[.agg #[.int .i64 lo, .int .i64 hi, .slice A js.length c, .slice A' ms.length c'], .int .i64 6] W fun e w' => e = .returned (.bool (largeB js ms 6)) ∧ Below W.heap.size W w') := ⟨fun W h => large_any lo hi A c js A' c' ms 6 W h.jr hc h.mr hc'⟩
  clear hr hr'
  by_cases hlg : largeB js ms 6 = true
  · rw [hlg] at HLg
    clear hlg
    go_enter Try.func3, Try.ntmps3
    go_wp2_with (first
      | (go_at_call 10; (with_reducible refine (HLg.out _ H0.out).mono ?_); rintro e W1 ⟨rfl, hb⟩; have H1 := Aside0.mk (H0.out.next hb); clear hb s0 s1 s2 s3)
      | (go_at_call 11; (with_reducible refine (awake_any _).mono ?_); rintro e W2 ⟨rfl, hb⟩; have HB2 := Aside0.mk (bl_next' H1.out.bel hb); clear hb))
    go_ret
    exact ⟨rfl, HB2.out⟩
  · have hlf : largeB js ms 6 = false := by simpa using hlg
    have hl : js.length ≤ 9223372036854775806 ∧ ms.length ≤ 9223372036854775806 := by
      simp only [largeB, Bool.or_eq_false_iff, Bool.and_eq_false_iff, decide_eq_false_iff_not] at hlf
      omega
    rw [hlf] at HLg
    clear hlg hlf
    have HFd : Aside0 (∀ W, NetAt w W w.heap.size lo hi A c js A' c' ms → Calls Try.prog 12 #[.agg #[.int .i64 lo, .int .i64 hi, .slice A js.length c, .slice A' ms.length c'], .int .i64 j] W fun e w' => e = .returned (.tuple #[.int .i64 (fedS lo hi js ms j).1, .int .i64 (fedS lo hi js ms j).2]) ∧ Below W.heap.size W w') := ⟨fun W h => Fed_any lo hi A c js A' c' ms j W h.jr hc h.mr hc'⟩
    have HFr : Aside0 (∀ W, NetAt w W w.heap.size lo hi A c js A' c' ms → Calls Try.prog 13 #[.agg #[.int .i64 lo, .int .i64 hi, .slice A js.length c, .slice A' ms.length c'], .int .i64 j] W fun e w' => e = .returned (.tuple #[.int .i64 (fedS lo hi js ms j).1, .int .i64 (fedS lo hi js ms j).2]) ∧ Below W.heap.size W w') := ⟨fun W h => rFed_any lo hi A c js A' c' ms j W h.jr hc h.mr hc' hl.1 hl.2⟩
    have HPd : Aside0 (∀ W, NetAt w W w.heap.size lo hi A c js A' c' ms → Calls Try.prog 14 #[.agg #[.int .i64 lo, .int .i64 hi, .slice A js.length c, .slice A' ms.length c'], .int .i64 j] W fun e w' => e = .returned (.tuple #[.agg #[.int .i64 (pressS lo hi js ms j).1, .int .i64 (pressS lo hi js ms j).2.1], .int .i64 (pressS lo hi js ms j).2.2]) ∧ Below W.heap.size W w') := ⟨fun W h => Press_any lo hi A c js A' c' ms j W h.jr hc h.mr hc'⟩
    have HPr : Aside0 (∀ W, NetAt w W w.heap.size lo hi A c js A' c' ms → Calls Try.prog 15 #[.agg #[.int .i64 lo, .int .i64 hi, .slice A js.length c, .slice A' ms.length c'], .int .i64 j] W fun e w' => e = .returned (.tuple #[.agg #[.int .i64 (pressS lo hi js ms j).1, .int .i64 (pressS lo hi js ms j).2.1], .int .i64 (pressS lo hi js ms j).2.2]) ∧ Below W.heap.size W w') := ⟨fun W h => rPress_any lo hi A c js A' c' ms j W h.jr hc h.mr hc' hl.1 hl.2⟩
    have HXd : Aside0 (∀ W, NetAt w W w.heap.size lo hi A c js A' c' ms → Calls Try.prog 16 #[.agg #[.int .i64 lo, .int .i64 hi, .slice A js.length c, .slice A' ms.length c']] W fun e w' => e = .returned (.tuple #[.int .i64 (faultT lo hi js ms).1, .bool (faultT lo hi js ms).2.1, .int .i64 (faultT lo hi js ms).2.2]) ∧ Below W.heap.size W w') := ⟨fun W h => Fault_any lo hi A c js A' c' ms W h.jr hc h.mr hc'⟩
    have HXr : Aside0 (∀ W, NetAt w W w.heap.size lo hi A c js A' c' ms → Calls Try.prog 17 #[.agg #[.int .i64 lo, .int .i64 hi, .slice A js.length c, .slice A' ms.length c']] W fun e w' => e = .returned (.tuple #[.int .i64 (faultT lo hi js ms).1, .bool (faultT lo hi js ms).2.1, .int .i64 (faultT lo hi js ms).2.2]) ∧ Below W.heap.size W w') := ⟨fun W h => rFault_any lo hi A c js A' c' ms W h.jr hc h.mr hc' hl.1 hl.2⟩
    generalize fedS lo hi js ms j = fd at HFd HFr
    generalize pressS lo hi js ms j = pr at HPd HPr
    generalize faultT lo hi js ms = ft at HXd HXr
    obtain ⟨f1, f2⟩ := fd
    obtain ⟨p1, p2, p3⟩ := pr
    obtain ⟨x1, x2, x3⟩ := ft
    simp only at HFd HFr HPd HPr HXd HXr
    have heq := fun W => eq23 W p1 p2
    go_enter Try.func3, Try.ntmps3
    go_wp2_with (first
      | (go_at_call 10; (with_reducible refine (HLg.out _ H0.out).mono ?_); rintro e W1 ⟨rfl, hb⟩; have H1 := Aside0.mk (H0.out.next hb); clear hb s0 s1 s2 s3; have s0 := cell_two H1.out.blk 0 rfl; have s1 := cell_two H1.out.blk 1 rfl; have s2 := cell_two H1.out.blk 2 rfl; have s3 := cell_two H1.out.blk 3 rfl)
      | (go_at_call 12; (with_reducible refine (HFd.out _ H1.out).mono ?_); rintro e W2 ⟨rfl, hb⟩; have H2 := Aside0.mk (H1.out.next hb); clear hb s0 s1 s2 s3; have s0 := cell_two H2.out.blk 0 rfl; have s1 := cell_two H2.out.blk 1 rfl; have s2 := cell_two H2.out.blk 2 rfl; have s3 := cell_two H2.out.blk 3 rfl)
      | (go_at_call 13; (with_reducible refine (HFr.out _ H2.out).mono ?_); rintro e W3 ⟨rfl, hb⟩; have H3 := Aside0.mk (H2.out.next hb); clear hb s0 s1 s2 s3; have s0 := cell_two H3.out.blk 0 rfl; have s1 := cell_two H3.out.blk 1 rfl; have s2 := cell_two H3.out.blk 2 rfl; have s3 := cell_two H3.out.blk 3 rfl)
      | (go_at_call 14; (with_reducible refine (HPd.out _ H3.out).mono ?_); rintro e W4 ⟨rfl, hb⟩; have H4 := Aside0.mk ((H3.out.next hb).next (below_alloc (Below.refl _ _) (.cells #[.int .i64 p1, .int .i64 p2] 23))); have Q4 := Aside0.mk (blk_new W4 (.cells #[.int .i64 p1, .int .i64 p2] 23)); clear hb s0 s1 s2 s3; have s0 := cell_two H4.out.blk 0 rfl; have s1 := cell_two H4.out.blk 1 rfl; have s2 := cell_two H4.out.blk 2 rfl; have s3 := cell_two H4.out.blk 3 rfl)
      | (go_at_call 15; (with_reducible refine (HPr.out _ H4.out).mono ?_); rintro e W5 ⟨rfl, hb⟩; have H5 := Aside0.mk ((H4.out.next hb).next (below_alloc (Below.refl _ _) (.cells #[.int .i64 p1, .int .i64 p2] 23))); have Q5 := Aside0.mk (blk_alloc (blk_below Q4.out hb) (.cells #[.int .i64 p1, .int .i64 p2] 23)); have R5 := Aside0.mk (blk_new W5 (.cells #[.int .i64 p1, .int .i64 p2] 23)); clear hb s0 s1 s2 s3; have s0 := cell_two H5.out.blk 0 rfl; have s1 := cell_two H5.out.blk 1 rfl; have s2 := cell_two H5.out.blk 2 rfl; have s3 := cell_two H5.out.blk 3 rfl)
      | (go_at_call 16; (with_reducible refine (HXd.out _ H5.out).mono ?_); rintro e W6 ⟨rfl, hb⟩; have H6 := Aside0.mk (H5.out.next hb); have Q6 := Aside0.mk (blk_below Q5.out hb); have R6 := Aside0.mk (blk_below R5.out hb); clear hb s0 s1 s2 s3; have s0 := cell_two H6.out.blk 0 rfl; have s1 := cell_two H6.out.blk 1 rfl; have s2 := cell_two H6.out.blk 2 rfl; have s3 := cell_two H6.out.blk 3 rfl)
      | (go_at_call 17; (with_reducible refine (HXr.out _ H6.out).mono ?_); rintro e W7 ⟨rfl, hb⟩; have H7 := Aside0.mk (H6.out.next hb); have Q7 := Aside0.mk (blk_below Q6.out hb); have R7 := Aside0.mk (blk_below R6.out hb); clear hb s0 s1 s2 s3; have s0 := cell_two Q7.out 0 rfl; have s1 := cell_two Q7.out 1 rfl; have s2 := cell_two R7.out 0 rfl; have s3 := cell_two R7.out 1 rfl)
      | (go_at_call 11; (with_reducible refine (awake_any _).mono ?_); rintro e W8 ⟨rfl, hb⟩; have HB8 := Aside0.mk (bl_next' H7.out.bel hb); clear hb))
    go_ret
    exact ⟨rfl, HB8.out⟩
end Go.Proofs.Ytbjinkkmakhbaaa.Print
