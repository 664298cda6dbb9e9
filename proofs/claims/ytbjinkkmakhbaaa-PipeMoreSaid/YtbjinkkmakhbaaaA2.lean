/- The network's check (isNetwork, its closure, slices.ContainsFunc and IndexFunc at it). -/
import Derived.Test.YtbjinkkmakhbaaaPrint2
import Derived.Laws.EntriesVeiled
namespace Go.Proofs.Ytbjinkkmakhbaaa.Print
open Go.RowKit Go.Proofs.YtbjinkkmakhbaaaW.PrintWords Go.Proofs.YtbjinkkmakhbaaaW.PrintLast Go.Proofs.YtbjinkkmakhbaaaW.PrintMore
set_option linter.unusedVariables false
set_option linter.unusedSimpArgs false
attribute [local go_sem] Oper.semAt_some

def withinB (n low high : Int) : Bool := decide (low ≤ n) && decide (n ≤ high)
set_option maxHeartbeats 400000 in
theorem within_any (n low high : Int) (w : World) :
    Calls Try.prog 34 #[.int .i64 n, .int .i64 low, .int .i64 high] w fun e w' => e = .returned (.bool (withinB n low high)) ∧ w' = w := by
  by_cases h : low ≤ n
  · have hb : decide (low ≤ n) = true := by simpa using h
    have hw : withinB n low high = decide (n ≤ high) := by simp [withinB, h]
    rw [hw]; clear hw h
    go_enter Try.func34, Try.ntmps34
    go_wp2
    go_ret
    exact ⟨rfl, rfl⟩
  · have hb : decide (low ≤ n) = false := by simpa using h
    have hw : withinB n low high = false := by simp [withinB, h]
    rw [hw]; clear hw h
    go_enter Try.func34, Try.ntmps34
    go_wp2
    go_ret
    exact ⟨rfl, rfl⟩
def spanB (lo hi most : Int) : Bool := withinB hi 0 most && withinB lo 0 hi
theorem bl_next' {w W W' : World} (h : Below w.heap.size w W) (hb : Below W.heap.size W W') : Below w.heap.size w W' := h.trans (hb.mono h.size)
theorem cell_two {W : World} {g : Nat} {t : TypeId} {cs : Array Value} (h : W.heap[g]? = some (.cells cs t (0, 0))) (i : Nat) {v : Value} (e : cs[i]? = some v) : W.cell? ⟨g, i, none⟩ = some v := (blk_cell h i).trans e
theorem pwithin_f (a b c : Int) : pipe_within.f a b c = some (withinB a b c) := by
  unfold pipe_within.f withinB
  by_cases h : b ≤ a
  · rw [if_pos h]
    simp [h]
  · rw [if_neg h]
    simp [h]
theorem isSpan_any (lo hi most : Int) (w : World) :
    Calls Try.prog 54 #[.agg #[.int .i64 lo, .int .i64 hi], .int .i64 most] w fun e w' => e = .returned (.bool (spanB lo hi most)) ∧ Below w.heap.size w w' :=
  pipe_isSpan.calls lo hi most _ w (by
    unfold pipe_isSpan.f spanB
    simp only [pwithin_f, Option.bind_some]
    cases withinB hi 0 most <;> rfl)
/-- What the closure says of a junction that is not valid. -/
def badJ (j : S50) : Bool := !(withinB j.f2 (-1099511627776) 1099511627776 && withinB j.f1 (-1099511627776) j.f2) || !spanB j.f0.f0 j.f0.f1 1000000 || !withinB j.f3 (-1) 1099511627776
set_option maxHeartbeats 1000000 in
theorem badJ_any (j : S50) (w : World) :
    Calls Try.prog 53 #[.agg #[.int .i64 j.f0.f0, .int .i64 j.f0.f1, .int .i64 j.f1, .int .i64 j.f2, .int .i64 j.f3]] w fun e w' => e = .returned (.bool (badJ j)) ∧ Below w.heap.size w w' := by
  unfold badJ
  have HB0 := Aside0.mk (below_alloc (Below.refl w.heap.size w) (.cells #[.int .i64 j.f0.f0, .int .i64 j.f0.f1, .int .i64 j.f1, .int .i64 j.f2, .int .i64 j.f3] 50))
  have BP0 := Aside0.mk (blk_new w (.cells #[.int .i64 j.f0.f0, .int .i64 j.f0.f1, .int .i64 j.f1, .int .i64 j.f2, .int .i64 j.f3] 50))
  obtain ⟨b1, h1⟩ : ∃ b, withinB j.f2 (-1099511627776) 1099511627776 = b := ⟨_, rfl⟩
  obtain ⟨b2, h2⟩ : ∃ b, withinB j.f1 (-1099511627776) j.f2 = b := ⟨_, rfl⟩
  obtain ⟨b3, h3⟩ : ∃ b, spanB j.f0.f0 j.f0.f1 1000000 = b := ⟨_, rfl⟩
  obtain ⟨b4, h4⟩ : ∃ b, withinB j.f3 (-1) 1099511627776 = b := ⟨_, rfl⟩
  rw [h1, h2, h3, h4]
  have H1 : Aside0 (∀ W, Calls Try.prog 34 #[.int .i64 j.f2, .int .i64 (-1099511627776), .int .i64 1099511627776] W fun e w' => e = .returned (.bool b1) ∧ w' = W) := ⟨fun W => by rw [← h1]; exact within_any _ _ _ W⟩
  have H2 : Aside0 (∀ W, Calls Try.prog 34 #[.int .i64 j.f1, .int .i64 (-1099511627776), .int .i64 j.f2] W fun e w' => e = .returned (.bool b2) ∧ w' = W) := ⟨fun W => by rw [← h2]; exact within_any _ _ _ W⟩
  have H3 : Aside0 (∀ W, Calls Try.prog 54 #[.agg #[.int .i64 j.f0.f0, .int .i64 j.f0.f1], .int .i64 1000000] W fun e w' => e = .returned (.bool b3) ∧ Below W.heap.size W w') := ⟨fun W => by rw [← h3]; exact isSpan_any _ _ _ W⟩
  have H4 : Aside0 (∀ W, Calls Try.prog 34 #[.int .i64 j.f3, .int .i64 (-1), .int .i64 1099511627776] W fun e w' => e = .returned (.bool b4) ∧ w' = W) := ⟨fun W => by rw [← h4]; exact within_any _ _ _ W⟩
  clear h1 h2 h3 h4
  obtain ⟨⟨f00, f01⟩, f1, f2, f3⟩ := j
  simp only at *
  cases b1 <;> cases b2 <;> cases b3 <;> cases b4
  all_goals
    go_enter Try.func53, Try.ntmps53
    go_wp2_with (first
      | (go_at_call 34; with_reducible refine (H1.out _).mono ?_; rintro e w' ⟨rfl, rfl⟩)
      | (go_at_call 34; with_reducible refine (H2.out _).mono ?_; rintro e w' ⟨rfl, rfl⟩)
      | (go_at_call 34; with_reducible refine (H4.out _).mono ?_; rintro e w' ⟨rfl, rfl⟩)
      | (go_at_call 54; with_reducible refine (H3.out _).mono ?_; rintro e W3 ⟨rfl, hb⟩; have HB3 := Aside0.mk (bl_next' HB0.out hb); have s3 := cell_two (blk_below BP0.out hb) 4 rfl; clear hb))
    go_ret
    first | exact ⟨rfl, HB3.out⟩ | exact ⟨rfl, HB0.out⟩
def anyJ (l : List S50) : Bool := l.any badJ
theorem rd_T50_eq (xs : List S50) (i : Nat) (h : i < xs.length) : rd_T50 xs i = xs[i] := by
  simp [rd_T50, List.getD_eq_getElem?_getD, h]
theorem rd_T54_eq (xs : List S54) (i : Nat) (h : i < xs.length) : rd_T54 xs i = xs[i] := by
  simp [rd_T54, List.getD_eq_getElem?_getD, h]
theorem anyJ_snoc (l : List S50) (k : Nat) (h : k < l.length) : anyJ (l.take (k + 1)) = (anyJ (l.take k) || badJ (rd_T50 l k)) := by
  unfold anyJ
  rw [List.take_succ_eq_append_getElem h, rd_T50_eq _ _ h]
  simp only [List.any_append, List.any_cons, List.any_nil, Bool.or_false]
theorem anyJ_true (l : List S50) (k : Nat) (h : anyJ (l.take k) = true) : anyJ l = true := by
  unfold anyJ at *
  rw [List.any_eq_true] at *
  obtain ⟨x, hx, h⟩ := h
  exact ⟨x, List.mem_of_mem_take hx, h⟩
set_option maxHeartbeats 1000000 in
theorem indexJ_any (A : Option Addr) (c : Nat) (l : List S50) (w : World) (hr : Kd.C k50 w A l.length l) (hcc : l.length ≤ c) :
    Calls Try.prog 69 #[.slice A l.length c, .func (.func 53) #[] #[]] w fun e w' => (∃ i : Int, e = .returned (.int .i64 i) ∧ (decide (0 ≤ i) = anyJ l)) ∧ Below w.heap.size w w' := by
  have hm := Kd.C_max hr
  have HR := Aside0.mk hr
  clear hr
  go_enter Try.func69, Try.ntmps69
  go_wp2_with (fail)
  go_loopw [8] (fun i wr => ∃ k : Nat, i = .int .i64 (k : Int) ∧ k ≤ l.length ∧ Aside0 (anyJ (l.take k) = false) ∧ Aside0 (Below w.heap.size w wr)) (fun i _ => l.length - (intOf i).toNat)
  case atStart => exact ⟨0, rfl, by omega, ⟨by simp [anyJ]⟩, ⟨Below.refl _ _⟩⟩
  case round =>
    obtain ⟨k, rfl, hk, HA, HB⟩ := hrel
    by_cases hlt : k < l.length
    · have hlt' : decide ((k : Int) < (l.length : Int)) = true := decide_eq_true (by omega)
      have k0 : (0 : Int) ≤ (k : Int) := Int.natCast_nonneg k
      have k1 : (k : Int) < (l.length : Int) := by omega
      obtain ⟨ad, e, g0, g1, g2, g3, g4⟩ := at_T50 (Kd.C_below HR.out HB.out) k k0 k1
      cases e
      simp only [Int.toNat_natCast] at g0 g1 g2 g3 g4
      have HS := Aside0.mk (anyJ_snoc l k hlt)
      obtain ⟨b, hb0⟩ : ∃ b, badJ (rd_T50 l k) = b := ⟨_, rfl⟩
      have HBD : Aside0 (∀ W, Calls Try.prog 53 #[.agg #[.int .i64 (rd_T50 l k).f0.f0, .int .i64 (rd_T50 l k).f0.f1, .int .i64 (rd_T50 l k).f1, .int .i64 (rd_T50 l k).f2, .int .i64 (rd_T50 l k).f3]] W fun e w' => e = .returned (.bool b) ∧ Below W.heap.size W w') := ⟨fun W => by rw [← hb0]; exact badJ_any _ W⟩
      rw [hb0] at HS
      clear hb0
      cases b
      · go_wp2_with (go_at_call 53; refine (HBD.out _).mono ?_; rintro e w' ⟨rfl, hb⟩; have HB2 := Aside0.mk (bl_next' HB.out hb); clear hb)
        go_roundw
        case rel => exact ⟨k + 1, by go_num, by omega, ⟨by rw [HS.out, HA.out]; rfl⟩, HB2⟩
        case measure => simp [intOf]; omega
      · go_wp2_with (go_at_call 53; refine (HBD.out _).mono ?_; rintro e w' ⟨rfl, hb⟩; have HB2 := Aside0.mk (bl_next' HB.out hb); clear hb)
        go_ret
        refine ⟨⟨k, rfl, ?_⟩, HB2.out⟩
        rw [anyJ_true l (k + 1) (by rw [HS.out]; simp)]
        simp
    · have hlt' : decide ((k : Int) < (l.length : Int)) = false := decide_eq_false (by omega)
      go_wp2_with (fail)
      go_ret
      refine ⟨⟨-1, rfl, ?_⟩, HB.out⟩
      have e : k = l.length := by omega
      have hA := HA.out
      rw [e, List.take_length] at hA
      rw [hA]
      rfl
set_option maxHeartbeats 1000000 in
theorem containsJ_any (A : Option Addr) (c : Nat) (l : List S50) (w : World) (hr : Kd.C k50 w A l.length l) (hcc : l.length ≤ c) :
    Calls Try.prog 55 #[.slice A l.length c, .func (.func 53) #[] #[]] w fun e w' => e = .returned (.bool (anyJ l)) ∧ Below w.heap.size w w' := by
  have HR := Aside0.mk hr
  clear hr
  go_enter Try.func55, Try.ntmps55
  go_wp2_with (go_at_call 69; refine (indexJ_any _ _ _ _ HR.out hcc).mono ?_; rintro e w' ⟨⟨i, rfl, hi⟩, hb⟩; have HI := Aside0.mk hi; clear hi)
  go_ret
  exact ⟨by rw [HI.out]; rfl, hb⟩
/-- A main that is not valid. -/
def badM (k : Nat) (m : S54) : Bool := !withinB m.f0 0 (k : Int) || !withinB m.f1 0 1000 || !withinB m.f2 0 2 || !withinB m.f3 1 1000000
def anyM : Nat → List S54 → Bool
  | _, [] => false
  | k, m :: l => badM k m || anyM (k + 1) l
theorem anyM_snoc : ∀ (l : List S54) (i : Nat) (m : S54), anyM i (l ++ [m]) = (anyM i l || badM (i + l.length) m)
  | [], i, m => by simp [anyM]
  | x :: l, i, m => by
    simp only [List.cons_append, anyM, anyM_snoc l (i + 1) m, List.length_cons, Bool.or_assoc]
    rw [show i + 1 + l.length = i + (l.length + 1) by omega]
theorem anyM_take (l : List S54) (k : Nat) (h : k < l.length) : anyM 0 (l.take (k + 1)) = (anyM 0 (l.take k) || badM k (rd_T54 l k)) := by
  rw [List.take_succ_eq_append_getElem h, anyM_snoc, rd_T54_eq _ _ h, List.length_take, Nat.zero_add, Nat.min_eq_left (by omega)]
theorem anyM_append : ∀ (l r : List S54) (i : Nat), anyM i l = true → anyM i (l ++ r) = true
  | x :: l, r, i, h => by
    simp only [anyM, Bool.or_eq_true, List.cons_append] at h ⊢
    rcases h with h | h
    · exact .inl h
    · exact .inr (anyM_append l r (i + 1) h)
theorem anyM_true (l : List S54) (k : Nat) (h : anyM 0 (l.take k) = true) : anyM 0 l = true := by
  rw [← List.take_append_drop k l]
  exact anyM_append _ _ _ h
/-- A network's check. -/
def netB (lo hi : Int) (js : List S50) (ms : List S54) : Bool := spanB lo hi 1099511627776 && withinB js.length 1 9 && decide ((ms.length : Int) = js.length - 1) && !anyJ js && !anyM 0 ms
end Go.Proofs.Ytbjinkkmakhbaaa.Print

namespace Go.Proofs.Ytbjinkkmakhbaaa.Print
open Go.RowKit Go.Proofs.YtbjinkkmakhbaaaW.PrintWords Go.Proofs.YtbjinkkmakhbaaaW.PrintLast Go.Proofs.YtbjinkkmakhbaaaW.PrintMore
set_option linter.unusedVariables false
set_option linter.unusedSimpArgs false
attribute [local go_sem] Oper.semAt_some
abbrev netC (lo hi : Int) (A : Option Addr) (n c : Nat) (A' : Option Addr) (n' c' : Nat) : Array Value := #[.int .i64 lo, .int .i64 hi, .slice A n c, .slice A' n' c']
/-- What the box of a network holds, and its rows. -/
structure NetAt (w W : World) (P : Nat) (lo hi : Int) (A : Option Addr) (c : Nat) (js : List S50) (A' : Option Addr) (c' : Nat) (ms : List S54) : Prop where
  blk : W.heap[P]? = some (.cells (netC lo hi A js.length c A' ms.length c') 27 (0, 0))
  jr : Kd.C k50 W A js.length js
  mr : Kd.C k54 W A' ms.length ms
  bel : Below w.heap.size w W
theorem NetAt.next {w W W' : World} {P : Nat} {lo hi : Int} {A : Option Addr} {c : Nat} {js : List S50} {A' : Option Addr} {c' : Nat} {ms : List S54} (h : NetAt w W P lo hi A c js A' c' ms) (hb : Below W.heap.size W W') : NetAt w W' P lo hi A c js A' c' ms where
  blk := blk_below h.blk hb
  jr := Kd.C_below h.jr hb
  mr := Kd.C_below h.mr hb
  bel := bl_next' h.bel hb
set_option maxHeartbeats 2000000 in
set_option maxRecDepth 100000 in
theorem network_any (lo hi : Int) (A : Option Addr) (c : Nat) (js : List S50) (A' : Option Addr) (c' : Nat) (ms : List S54) (w : World) (hr : Kd.C k50 w A js.length js) (hc : js.length ≤ c) (hr' : Kd.C k54 w A' ms.length ms) (hc' : ms.length ≤ c') :
    Calls Try.prog 33 #[.agg #[.int .i64 lo, .int .i64 hi, .slice A js.length c, .slice A' ms.length c']] w fun e w' => e = .returned (.bool (netB lo hi js ms)) ∧ Below w.heap.size w w' := by
  have hm := Kd.C_max hr
  have hm' := Kd.C_max hr'
  have H0 : Aside0 (NetAt w (w.alloc (.cells (netC lo hi A js.length c A' ms.length c') 27)) w.heap.size lo hi A c js A' c' ms) := ⟨⟨blk_new w _, Kd.C_alloc hr _, Kd.C_alloc hr' _, below_alloc (Below.refl _ _) _⟩⟩
  have s0 := cell_two H0.out.blk 0 rfl
  have s1 := cell_two H0.out.blk 1 rfl
  have s2 := cell_two H0.out.blk 2 rfl
  have s3 := cell_two H0.out.blk 3 rfl
  unfold netB
  obtain ⟨b1, h1⟩ : ∃ b, spanB lo hi 1099511627776 = b := ⟨_, rfl⟩
  obtain ⟨b2, h2⟩ : ∃ b, withinB (js.length : Int) 1 9 = b := ⟨_, rfl⟩
  obtain ⟨b4, h4⟩ : ∃ b, anyJ js = b := ⟨_, rfl⟩
  rw [h1, h2, h4]
  have H1 : Aside0 (∀ W, Calls Try.prog 54 #[.agg #[.int .i64 lo, .int .i64 hi], .int .i64 1099511627776] W fun e w' => e = .returned (.bool b1) ∧ Below W.heap.size W w') := ⟨fun W => by rw [← h1]; exact isSpan_any _ _ _ W⟩
  have H2 : Aside0 (∀ W, Calls Try.prog 34 #[.int .i64 (js.length : Int), .int .i64 1, .int .i64 9] W fun e w' => e = .returned (.bool b2) ∧ w' = W) := ⟨fun W => by rw [← h2]; exact within_any _ _ _ W⟩
  have H4 : Aside0 (∀ W, Kd.C k50 W A js.length js → Calls Try.prog 55 #[.slice A js.length c, .func (.func 53) #[] #[]] W fun e w' => e = .returned (.bool b4) ∧ Below W.heap.size W w') := ⟨fun W h => by rw [← h4]; exact containsJ_any A c js W h hc⟩
  have hw : wrap64 ((js.length : Int) - 1) = (js.length : Int) - 1 := by unfold wrap64; omega
  clear h1 h2 h4 hr hr'
  cases b1
  · go_enter Try.func33, Try.ntmps33
    go_wp2_with (go_at_call 54; with_reducible refine (H1.out _).mono ?_; rintro e W1 ⟨rfl, hb⟩; have HN1 := Aside0.mk (H0.out.next hb); clear hb)
    go_ret
    exact ⟨by simp, HN1.out.bel⟩
  cases b2
  · go_enter Try.func33, Try.ntmps33
    go_wp2_with (first
      | (go_at_call 54; with_reducible refine (H1.out _).mono ?_; rintro e W1 ⟨rfl, hb⟩; have HN1 := Aside0.mk (H0.out.next hb); clear hb s0 s1 s2 s3; have s1 := cell_two HN1.out.blk 1 rfl; have s2 := cell_two HN1.out.blk 2 rfl; have s3 := cell_two HN1.out.blk 3 rfl)
      | (go_at_call 34; with_reducible refine (H2.out _).mono ?_; rintro e w' ⟨rfl, rfl⟩))
    go_ret
    exact ⟨by simp, HN1.out.bel⟩
  by_cases h3 : (ms.length : Int) = (js.length : Int) - 1
  · have g3 : ((ms.length : Int) != (js.length : Int) - 1) = false := by rw [h3]; simp
    have e3 : decide ((ms.length : Int) = (js.length : Int) - 1) = true := decide_eq_true h3
    rw [e3]
    clear h3 e3
    cases b4
    · simp only [Bool.true_and, Bool.not_false]
      go_enter Try.func33, Try.ntmps33
      go_wp2_with (first
        | (go_at_call 54; with_reducible refine (H1.out _).mono ?_; rintro e W1 ⟨rfl, hb⟩; have HN1 := Aside0.mk (H0.out.next hb); clear hb s0 s1 s2 s3; have s1 := cell_two HN1.out.blk 1 rfl; have s2 := cell_two HN1.out.blk 2 rfl; have s3 := cell_two HN1.out.blk 3 rfl)
        | (go_at_call 34; with_reducible refine (H2.out _).mono ?_; rintro e w' ⟨rfl, rfl⟩)
        | (go_at_call 55; with_reducible refine (H4.out _ HN1.out.jr).mono ?_; rintro e W2 ⟨rfl, hb⟩; have HN2 := Aside0.mk (HN1.out.next hb); clear hb s1 s2 s3; have s3 := cell_two HN2.out.blk 3 rfl))
      go_loopw [36] (fun i wr => ∃ k : Nat, i = .int .i64 (k : Int) ∧ k ≤ ms.length ∧ Aside0 (anyM 0 (ms.take k) = false) ∧ Aside0 (NetAt w wr w.heap.size lo hi A c js A' c' ms)) (fun i _ => ms.length - (intOf i).toNat)
      case atStart => exact ⟨0, rfl, by omega, ⟨by simp [anyM]⟩, HN2⟩
      case round =>
        clear HN1 HN2 s3
        obtain ⟨k, rfl, hk, HA, HN⟩ := hrel
        by_cases hlt : k < ms.length
        · have hlt' : decide ((k : Int) < (ms.length : Int)) = true := decide_eq_true (by omega)
          have k0 : (0 : Int) ≤ (k : Int) := Int.natCast_nonneg k
          have k1 : (k : Int) < (ms.length : Int) := by omega
          obtain ⟨ad, e, g0, g1, g2, g3'⟩ := at_T54 HN.out.mr k k0 k1
          cases e
          simp only [Int.toNat_natCast] at g0 g1 g2 g3'
          have HS := anyM_take ms k hlt
          rw [HA.out, Bool.false_or] at HS
          unfold badM at HS
          have HBX := Aside0.mk (below_alloc (Below.refl wr.heap.size wr) (.cells #[.int .i64 (rd_T54 ms k).f0, .int .i64 (rd_T54 ms k).f1, .int .i64 (rd_T54 ms k).f2, .int .i64 (rd_T54 ms k).f3] 54))
          obtain ⟨q1, e1⟩ : ∃ b, withinB (rd_T54 ms k).f0 0 (k : Int) = b := ⟨_, rfl⟩
          obtain ⟨q2, e2⟩ : ∃ b, withinB (rd_T54 ms k).f1 0 1000 = b := ⟨_, rfl⟩
          obtain ⟨q3, e3⟩ : ∃ b, withinB (rd_T54 ms k).f2 0 2 = b := ⟨_, rfl⟩
          obtain ⟨q4, e4⟩ : ∃ b, withinB (rd_T54 ms k).f3 1 1000000 = b := ⟨_, rfl⟩
          rw [e1, e2, e3, e4] at HS
          have Q1 : Aside0 (∀ W, Calls Try.prog 34 #[.int .i64 (rd_T54 ms k).f0, .int .i64 0, .int .i64 (k : Int)] W fun e w' => e = .returned (.bool q1) ∧ w' = W) := ⟨fun W => by rw [← e1]; exact within_any _ _ _ W⟩
          have Q2 : Aside0 (∀ W, Calls Try.prog 34 #[.int .i64 (rd_T54 ms k).f1, .int .i64 0, .int .i64 1000] W fun e w' => e = .returned (.bool q2) ∧ w' = W) := ⟨fun W => by rw [← e2]; exact within_any _ _ _ W⟩
          have Q3 : Aside0 (∀ W, Calls Try.prog 34 #[.int .i64 (rd_T54 ms k).f2, .int .i64 0, .int .i64 2] W fun e w' => e = .returned (.bool q3) ∧ w' = W) := ⟨fun W => by rw [← e3]; exact within_any _ _ _ W⟩
          have Q4 : Aside0 (∀ W, Calls Try.prog 34 #[.int .i64 (rd_T54 ms k).f3, .int .i64 1, .int .i64 1000000] W fun e w' => e = .returned (.bool q4) ∧ w' = W) := ⟨fun W => by rw [← e4]; exact within_any _ _ _ W⟩
          have HT : Aside0 (anyM 0 (ms.take (k + 1)) = true → anyM 0 ms = true) := ⟨anyM_true ms (k + 1)⟩
          obtain ⟨m, hm0⟩ : ∃ m, rd_T54 ms k = m := ⟨_, rfl⟩
          rw [hm0] at g0 g1 g2 g3' Q1 Q2 Q3 Q4 HBX
          obtain ⟨m0, m1, m2, m3⟩ := m
          simp only at g0 g1 g2 g3' Q1 Q2 Q3 Q4 HBX
          clear e1 e2 e3 e4 hm0
          cases q1 <;> cases q2 <;> cases q3 <;> cases q4
          all_goals
            have HS2 := Aside0.mk HS
            clear HS
            go_wp2_with (first
              | (go_at_call 34; with_reducible refine (Q1.out _).mono ?_; rintro e w' ⟨rfl, rfl⟩)
              | (go_at_call 34; with_reducible refine (Q2.out _).mono ?_; rintro e w' ⟨rfl, rfl⟩)
              | (go_at_call 34; with_reducible refine (Q3.out _).mono ?_; rintro e w' ⟨rfl, rfl⟩)
              | (go_at_call 34; with_reducible refine (Q4.out _).mono ?_; rintro e w' ⟨rfl, rfl⟩))
            first
              | (go_ret; exact ⟨by rw [HT.out (by rw [HS2.out]; rfl)]; rfl, bl_next' HN.out.bel HBX.out⟩)
              | (go_roundw
                 case rel => exact ⟨k + 1, by go_num, by omega, ⟨by rw [HS2.out]; rfl⟩, ⟨HN.out.next HBX.out⟩⟩
                 case measure => simp [intOf]; omega)
        · have hlt' : decide ((k : Int) < (ms.length : Int)) = false := decide_eq_false (by omega)
          have e : k = ms.length := by omega
          have hA := HA.out
          rw [e, List.take_length] at hA
          have HAA := Aside0.mk hA
          clear hA e
          go_wp2_with (fail)
          go_ret
          exact ⟨by rw [HAA.out]; rfl, HN.out.bel⟩
    · go_enter Try.func33, Try.ntmps33
      go_wp2_with (first
        | (go_at_call 54; with_reducible refine (H1.out _).mono ?_; rintro e W1 ⟨rfl, hb⟩; have HN1 := Aside0.mk (H0.out.next hb); clear hb s0 s1 s2 s3; have s1 := cell_two HN1.out.blk 1 rfl; have s2 := cell_two HN1.out.blk 2 rfl; have s3 := cell_two HN1.out.blk 3 rfl)
        | (go_at_call 34; with_reducible refine (H2.out _).mono ?_; rintro e w' ⟨rfl, rfl⟩)
        | (go_at_call 55; with_reducible refine (H4.out _ HN1.out.jr).mono ?_; rintro e W2 ⟨rfl, hb⟩; have HN2 := Aside0.mk (HN1.out.next hb); clear hb))
      go_ret
      exact ⟨by simp, HN2.out.bel⟩
  · have g3 : ((ms.length : Int) != (js.length : Int) - 1) = true := bne_iff_ne.2 h3
    have e3 : decide ((ms.length : Int) = (js.length : Int) - 1) = false := decide_eq_false h3
    rw [e3]
    clear h3 e3
    go_enter Try.func33, Try.ntmps33
    go_wp2_with (first
      | (go_at_call 54; with_reducible refine (H1.out _).mono ?_; rintro e W1 ⟨rfl, hb⟩; have HN1 := Aside0.mk (H0.out.next hb); clear hb s0 s1 s2 s3; have s1 := cell_two HN1.out.blk 1 rfl; have s2 := cell_two HN1.out.blk 2 rfl; have s3 := cell_two HN1.out.blk 3 rfl)
      | (go_at_call 34; with_reducible refine (H2.out _).mono ?_; rintro e w' ⟨rfl, rfl⟩))
    go_ret
    exact ⟨by simp, HN1.out.bel⟩
end Go.Proofs.Ytbjinkkmakhbaaa.Print
