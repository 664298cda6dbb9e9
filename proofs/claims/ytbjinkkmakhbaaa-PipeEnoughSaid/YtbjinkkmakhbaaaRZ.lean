/- The document's Must, in the code's words. -/
import Derived.Test.YtbjinkkmakhbaaaRY
namespace Go.Proofs.Ytbjinkkmakhbaaa.Print
open Go.RowKit Go.Shelf Go.Proofs.YtbjinkkmakhbaaaW.PrintWords Go.Proofs.YtbjinkkmakhbaaaW.PrintLast Go.Proofs.YtbjinkkmakhbaaaW.PrintMore
set_option linter.unusedVariables false
set_option linter.unusedSimpArgs false
attribute [local go_sem] Oper.semAt_some
/-- Do all of some sets hold a main? -/
def allIn (k : Nat) (l : List (Int × Int)) : Bool := l.all fun x => x.1.toNat.testBit k
theorem mustF_bit (k : Nat) : ∀ (l : List (Int × Int)) (a : Nat × Bool), (l.foldl mustS1 a).1.testBit k = (a.1.testBit k && allIn k l)
  | [], a => by simp [allIn]
  | x :: l, a => by
    rw [List.foldl_cons, mustF_bit k l, mustS1]
    show ((a.1 &&& x.1.toNat).testBit k && allIn k l) = (a.1.testBit k && (x.1.toNat.testBit k && allIn k l))
    rw [Nat.testBit_and, Bool.and_assoc]
theorem mustF_some : ∀ (l : List (Int × Int)) (a : Nat × Bool), (l.foldl mustS1 a).2 = (a.2 || !l.isEmpty)
  | [], a => by simp
  | x :: l, a => by
    rw [List.foldl_cons, mustF_some l, mustS1]
    simp
theorem must_bit {n k : Nat} (hk : k < n) (l : List (Int × Int)) : (mustF (2 ^ n) l).1.testBit k = allIn k l := by
  unfold mustF
  rw [mustF_bit, Nat.testBit_two_pow_sub_one, decide_eq_true hk, Bool.true_and]
theorem must_le : ∀ (l : List (Int × Int)) (a : Nat × Bool), (l.foldl mustS1 a).1 ≤ a.1
  | [], a => Nat.le_refl _
  | x :: l, a => by
    rw [List.foldl_cons]
    exact Nat.le_trans (must_le l _) Nat.and_le_left
theorem must_lt {n : Nat} (l : List (Int × Int)) : (mustF (2 ^ n) l).1 < 2 ^ n := by
  have := must_le l (2 ^ n - 1, false)
  have h2 : 0 < 2 ^ n := Nat.pow_pos (by decide)
  unfold mustF
  simp only at this
  omega
theorem allIn_take {l : List (Int × Int)} {i : Nat} (k : Nat) (h : i < l.length) : allIn k (l.take (i + 1)) = (allIn k (l.take i) && l[i].1.toNat.testBit k) := by
  unfold allIn
  rw [List.take_succ_eq_append_getElem h, List.all_append]
  simp
theorem R_self {W : World} {B : Nat} {ok : Nat → Prop} {v : Value} {xs : List Int} (h : Kd.R (Kd.int .i64) 3 W B ok v xs) : Kd.R (Kd.int .i64) 3 W B (fun k => v.ownBlock = some k) v xs := ⟨fun _ hk => hk, h.2.imp_ (fun _ _ hp => hp)⟩
theorem R_apart {W W' : World} {B : Nat} {ok ok' : Nat → Prop} {u v : Value} {xs ys : List Int} (h : Kd.R (Kd.int .i64) 3 W B ok v xs) (hu : Kd.R (Kd.int .i64) 3 W B (fun b => some b ≠ v.ownBlock ∧ ok' b) u ys) (hg : W.grownBy W' u.ownBlock) : Kd.R (Kd.int .i64) 3 W' B (fun _ => True) v xs :=
  Kd.R_mono (Kd.R_grown (R_self h) hg (fun k hk e => (hu.1 k e.symm).1 hk.symm)) (fun _ _ => trivial)
set_option maxHeartbeats 4000000 in
set_option maxRecDepth 100000 in
theorem rMust_any (lo hi : Int) (A : Option Addr) (c : Nat) (js : List S50) (A' : Option Addr) (c' : Nat) (ms : List S54) (w : World) (hr : Kd.C k50 w A js.length js) (hc : js.length ≤ c) (hr' : Kd.C k54 w A' ms.length ms) (hc' : ms.length ≤ c') (hl : js.length ≤ 9223372036854775806) (hml0 : ms.length ≤ 9223372036854775806) :
    Calls Try.prog 21 #[.agg #[.int .i64 lo, .int .i64 hi, .slice A js.length c, .slice A' ms.length c']] w fun e w' => ∃ v : Value, e = .returned (.tuple #[v, .int .i64 (mustR lo hi js ms).2]) ∧ Kd.R (Kd.int .i64) 3 w' w.heap.size (fun _ => True) v (mustR lo hi js ms).1 ∧ Below w.heap.size w w' := by
  have H0 : Aside0 (NetAt w (w.alloc (.cells (netC lo hi A js.length c A' ms.length c') 27)) w.heap.size lo hi A c js A' c' ms) := ⟨⟨blk_new w _, Kd.C_alloc hr _, Kd.C_alloc hr' _, below_alloc (Below.refl _ _) _⟩⟩
  have s0 := cell_two H0.out.blk 0 rfl
  have s1 := cell_two H0.out.blk 1 rfl
  have s2 := cell_two H0.out.blk 2 rfl
  have s3 := cell_two H0.out.blk 3 rfl
  have HNet : Aside0 (∀ W, NetAt w W w.heap.size lo hi A c js A' c' ms → Calls Try.prog 23 #[.agg #[.int .i64 lo, .int .i64 hi, .slice A js.length c, .slice A' ms.length c']] W fun e w' => e = .returned (.bool (netB lo hi js ms)) ∧ Below W.heap.size W w') := ⟨fun W h => rNetwork_any lo hi A c js A' c' ms W h.jr hc h.mr hc' hl hml0⟩
  have HBASE := Aside0.mk (And.intro hr hr')
  clear hr hr'
  obtain ⟨res, hres⟩ : ∃ r, mustR lo hi js ms = r := ⟨_, rfl⟩
  rw [hres]
  have HRES := Aside0.mk hres
  clear hres
  by_cases hn : netB lo hi js ms = true
  · have HOK := Aside0.mk (net_ok hn)
    have HNB := Aside0.mk hn
    rw [hn] at HNet
    clear hn
    have hml := HOK.out.few
    have HEn : Aside0 (∀ W, NetAt w W w.heap.size lo hi A c js A' c' ms → Calls Try.prog 45 #[.agg #[.int .i64 lo, .int .i64 hi, .slice A js.length c, .slice A' ms.length c']] W fun e w' => ∃ v, e = .returned v ∧ Kd.R (Kd.int .i64) 3 w' W.heap.size (fun _ => True) v (enS lo hi js ms (2 ^ ms.length)) ∧ Below W.heap.size W w') := ⟨fun W h => rEnough_any HOK.out W h.jr hc h.mr hc'⟩
    have hp8 : 2 ^ ms.length ≤ 256 := Nat.le_trans (Nat.pow_le_pow_right (by decide) hml) (by decide)
    have hLl : (enS lo hi js ms (2 ^ ms.length)).length ≤ 256 := Nat.le_trans (enS_len lo hi js ms _) hp8
    have HHas : Aside0 (∀ (s k : Nat) (W : World), s < 256 → k < 9 → Calls Try.prog 29 #[.int .i64 (s : Int), .int .i64 (k : Int)] W fun e w' => e = .returned (.bool (s.testBit k)) ∧ Below W.heap.size W w') := ⟨fun s k W hs hk => (gasworksref06_Has.calls 20 (s : Int) (k : Int) _ W (has_ok (by omega) (by omega) (by omega))).mono (by rintro e w' ⟨rfl, nd, rfl⟩; exact ⟨rfl, pw_below_drewN (Below.refl _ _) nd⟩)⟩
    have HAT : Aside0 (∀ k : Nat, k < (enS lo hi js ms (2 ^ ms.length)).length → ∃ (s : Nat), s < 256 ∧ (∃ (h : k < (enL lo hi js ms (2 ^ ms.length)).length), (enL lo hi js ms (2 ^ ms.length))[k].1 = (s : Int)) ∧ rd (enS lo hi js ms (2 ^ ms.length)) (k : Int) = (s : Int)) := ⟨fun k hk => by
      obtain ⟨s, h, h1, h2, h3⟩ := enS_at hk
      exact ⟨s, by omega, ⟨h, by rw [h1]⟩, h3⟩⟩
    have hLE : (enS lo hi js ms (2 ^ ms.length)).length = (enL lo hi js ms (2 ^ ms.length)).length := by unfold enS; simp
    have HLY : Aside0 (mustR lo hi js ms = if (mustF (2 ^ ms.length) (enL lo hi js ms (2 ^ ms.length))).2 = false then ([], 4) else (listL (mustF (2 ^ ms.length) (enL lo hi js ms (2 ^ ms.length))).1 8, 0)) := ⟨by unfold mustR; rw [if_pos HNB.out]⟩
    have HP8 := Aside0.mk hp8
    clear hp8
    generalize enS lo hi js ms (2 ^ ms.length) = L at HEn hLl HAT hLE
    generalize enL lo hi js ms (2 ^ ms.length) = E at HAT hLE HLY
    have HLE := Aside0.mk hLE
    clear hLE
    by_cases hne : L = []
    · have hz : ((L.length : Int) == 0) = true := by rw [hne]; rfl
      have HE0 : Aside0 (res = ([], 4)) := ⟨by
        have h1 : E = [] := List.eq_nil_of_length_eq_zero (by rw [← HLE.out, hne]; rfl)
        rw [← HRES.out, HLY.out, h1]
        rfl⟩
      clear hne
      go_enter Try.func21, Try.ntmps21
      go_wp2_with (first
        | (go_at_call 23; (with_reducible refine (HNet.out _ H0.out).mono ?_); rintro e W1 ⟨rfl, hb⟩; have H1 := Aside0.mk (H0.out.next hb); clear hb s0 s1 s2 s3; have s0 := cell_two H1.out.blk 0 rfl; have s1 := cell_two H1.out.blk 1 rfl; have s2 := cell_two H1.out.blk 2 rfl; have s3 := cell_two H1.out.blk 3 rfl)
        | (go_at_call 45; (with_reducible refine (HEn.out _ H1.out).mono ?_); rintro e W2 ⟨v, rfl, hR, hb⟩; obtain ⟨Ae, ce, rfl⟩ := Kd.R_slice hR; have H2 := Aside0.mk (H1.out.next hb); clear hb hR s0 s1 s2 s3))
      go_ret2
      rw [HE0.out]
      exact ⟨_, rfl, Kd.R_nil _ _ _ _ _, H2.out.bel⟩
    · have hpos : 0 < L.length := List.length_pos_iff.2 hne
      have hz : ((L.length : Int) == 0) = false := by
        rw [beq_eq_false_iff_ne]
        omega
      clear hne
      have HS : Aside0 (res = (listL (mustF (2 ^ ms.length) E).1 ms.length, 0)) := ⟨by
        have h1 : (mustF (2 ^ ms.length) E).2 = true := by
          unfold mustF
          rw [mustF_some]
          have : E ≠ [] := by
            intro h
            have := HLE.out
            rw [h] at this
            simp at this
            rw [this] at hpos
            simp at hpos
          cases E with
          | nil => exact absurd rfl this
          | cons => rfl
        rw [← HRES.out, HLY.out, h1, if_neg (by decide), listL_low (must_lt E) 8 hml]⟩
      have HBT : Aside0 (∀ k, k < ms.length → (mustF (2 ^ ms.length) E).1.testBit k = allIn k E) := ⟨fun k hk => must_bit hk E⟩
      generalize (mustF (2 ^ ms.length) E).1 = S at HS HBT
      go_enter Try.func21, Try.ntmps21
      go_wp2_with (first
        | (go_at_call 23; (with_reducible refine (HNet.out _ H0.out).mono ?_); rintro e W1 ⟨rfl, hb⟩; have H1 := Aside0.mk (H0.out.next hb); clear hb s0 s1 s2 s3; have s0 := cell_two H1.out.blk 0 rfl; have s1 := cell_two H1.out.blk 1 rfl; have s2 := cell_two H1.out.blk 2 rfl; have s3 := cell_two H1.out.blk 3 rfl)
        | (go_at_call 45; (with_reducible refine (HEn.out _ H1.out).mono ?_); rintro e W2 ⟨v, rfl, hR, hb⟩; obtain ⟨Ae, ce, rfl⟩ := Kd.R_slice hR; have H2 : Aside0 (LyAt w W2 lo hi A c js A' c' ms Ae ce L) := ⟨⟨H1.out.next hb, Kd.R_lower hR H1.out.bel.size⟩⟩; clear hb hR s0 s1 s2 s3))
      go_loopw [5, 6] (fun v i wr => ∃ (k : Nat) (Av : Option Addr) (cv : Nat), i = .int .i64 (k : Int) ∧ k ≤ ms.length ∧ v = .slice Av (listL S k).length cv ∧ Aside0 (LyAt w wr lo hi A c js A' c' ms Ae ce L) ∧ Aside0 (Kd.R (Kd.int .i64) 3 wr w.heap.size (fun b => some b ≠ Value.ownBlock (.slice Ae L.length ce) ∧ w.heap.size < b) (.slice Av (listL S k).length cv) (listL S k))) (fun _ i _ => ms.length - (intOf i).toNat)
      case atStart => exact ⟨0, none, 0, rfl, by omega, rfl, H2, ⟨Kd.R_nil _ _ _ _ _⟩⟩
      case round =>
        clear H1 H2
        obtain ⟨k, Av, cv, rfl, hk, rfl, HL, HV⟩ := hrel
        have s0 := cell_two HL.out.net.blk 0 rfl
        have s1 := cell_two HL.out.net.blk 1 rfl
        have s2 := cell_two HL.out.net.blk 2 rfl
        have s3 := cell_two HL.out.net.blk 3 rfl
        by_cases hlt : k < ms.length
        · have hlt' : decide ((k : Int) < (ms.length : Int)) = true := decide_eq_true (by omega)
          have k0 : (0 : Int) ≤ (k : Int) := Int.natCast_nonneg k
          have k1 : (k : Int) < (ms.length : Int) := by omega
          go_wp2_with (fail)
          clear s0 s1 s2 s3
          go_loopw [7, 8] (fun a i wr2 => ∃ (i2 : Nat), i = .int .i64 (i2 : Int) ∧ i2 ≤ L.length ∧ a = .bool (allIn k (E.take i2)) ∧ Aside0 (LyAt w wr2 lo hi A c js A' c' ms Ae ce L) ∧ Aside0 (Kd.R (Kd.int .i64) 3 wr2 w.heap.size (fun b => some b ≠ Value.ownBlock (.slice Ae L.length ce) ∧ w.heap.size < b) (.slice Av (listL S k).length cv) (listL S k))) (fun _ i _ => L.length - (intOf i).toNat)
          case atStart => exact ⟨0, rfl, by omega, rfl, HL, HV⟩
          case round =>
            clear HL HV
            obtain ⟨i2, rfl, hi2, rfl, HL, HV⟩ := hrel
            by_cases hlt2 : i2 < L.length
            · have hlt2' : decide ((i2 : Int) < (L.length : Int)) = true := decide_eq_true (by omega)
              have i0 : (0 : Int) ≤ (i2 : Int) := Int.natCast_nonneg i2
              have i1 : (i2 : Int) < (L.length : Int) := by omega
              obtain ⟨t, ht, ⟨hE, hx⟩, hrd⟩ := HAT.out i2 hlt2
              have hbs : allIn k (E.take (i2 + 1)) = (allIn k (E.take i2) && t.testBit k) := by rw [allIn_take k hE, hx, Int.toNat_natCast]
              have HX := Aside0.mk hbs
              clear hbs hE hx
              obtain ⟨ad2, e, g0⟩ := Kd.at_int (C_own HL.out.own).1 (i2 : Int) i0 i1
              subst e
              rw [hrd, Int.toNat_natCast] at g0
              have HRD := Aside0.mk hrd
              clear hrd
              have hk9 : k < 9 := by omega
              cases hb : allIn k (E.take i2)
              · have HX2 : Aside0 (allIn k (E.take (i2 + 1)) = false) := ⟨by rw [HX.out, hb]; rfl⟩
                clear hb
                go_wp2_with (fail)
                go_roundw
                case rel => exact ⟨i2 + 1, by go_num, by omega, by rw [HX2.out], HL, HV⟩
                case measure => simp [intOf]; omega
              · have HX2 : Aside0 (allIn k (E.take (i2 + 1)) = t.testBit k) := ⟨by rw [HX.out, hb]; rfl⟩
                clear hb
                go_wp2_with (go_at_call 29; (with_reducible refine (HHas.out t k _ ht hk9).mono ?_); rintro e W3 ⟨rfl, hb⟩; have H3 := Aside0.mk (HL.out.next hb); have HV3 := Aside0.mk (Kd.R_below HV.out hb); clear hb g0)
                go_roundw
                case rel => exact ⟨i2 + 1, by go_num, by omega, by rw [HX2.out], H3, HV3⟩
                case measure => simp [intOf]; omega
            · have hlt2' : decide ((i2 : Int) < (L.length : Int)) = false := decide_eq_false (by omega)
              have HAL : Aside0 (S.testBit k = allIn k (E.take i2)) := ⟨by rw [HBT.out k hlt, List.take_of_length_le (by have := HLE.out; omega)]⟩
              cases hb : allIn k (E.take i2)
              · have HLN : Aside0 (listL S (k + 1) = listL S k) := ⟨by rw [listL, HAL.out, hb]; simp⟩
                clear hb
                go_wp2_with (fail)
                go_roundw
                case rel => exact ⟨k + 1, Av, cv, by go_num, by omega, by rw [HLN.out], HL, by rw [HLN.out]; exact HV⟩
                case measure => simp [intOf]; omega
              · have HLN : Aside0 (listL S (k + 1) = listL S k ++ [(k : Int)]) := ⟨by rw [listL, HAL.out, hb]; simp⟩
                clear hb
                have hln : ((listL S k).length + 1) * 8 ≤ 140737488355328 := by have := listL_len S k; omega
                go_upto_region 16 with (fail)
                have HFR : Aside0 (∀ b, wr.heap.size ≤ b → some b ≠ Value.ownBlock (.slice Ae L.length ce) ∧ w.heap.size < b) := ⟨fun b h => ⟨fun e => by have := own_lt (Kd.R_own HL.out.own).choose_spec b e.symm; omega, by have := blk_lt HL.out.net.blk; omega⟩⟩
                go_wp2_with ((with_reducible refine gate_builtin (b := .append) (xs := #[.tmp 40, .tmp 42]) rfl ?_); at_builtin; refine Kd.R_append (Kd.int .i64) (w0 := w) w.heap.size rfl (.tmp 40) (.tmp 42) 37 3 (.int .i64 0) 8 rfl Try.underlying37 info3 rfl (by decide) (by omega) (.slice Av (listL S k).length cv) (listL S k) (k : Int) [.int .i64 (k : Int)] (fun b => some b ≠ Value.ownBlock (.slice Ae L.length ce) ∧ w.heap.size < b) (fun _ => False) rfl rfl rfl (fun _ hk => hk.elim) HFR.out HV.out HL.out.net.bel HL.out.net.bel.size hln ?_; intro v2 w2 ho hb hg hat; obtain ⟨A2, c2, rfl⟩ := Kd.R_slice ho; have HA2 : Aside0 (LyAt w w2 lo hi A c js A' c' ms Ae ce L) := ⟨⟨⟨blk_grown HL.out.net.blk hg (Kd.R_ne HV.out HL.out.net.blk (by decide)), Kd.C_below HBASE.out.1 hb, Kd.C_below HBASE.out.2 hb, hb⟩, R_apart HL.out.own HV.out hg⟩⟩; have HO2 := Aside0.mk ho; clear ho hb hg hat)
                go_roundw
                case rel => exact ⟨k + 1, A2, c2, by go_num, by omega, by rw [HLN.out]; simp, HA2, ⟨by rw [HLN.out]; simpa using HO2.out⟩⟩
                case measure => simp [intOf]; omega
        · have hlt' : decide ((k : Int) < (ms.length : Int)) = false := decide_eq_false (by omega)
          have ek : k = ms.length := by omega
          go_wp2_with (fail)
          go_ret2
          rw [HS.out, ← ek]
          exact ⟨_, rfl, Kd.R_mono HV.out (fun _ _ => trivial), HL.out.net.bel⟩
  · have hn' : netB lo hi js ms = false := by simpa using hn
    have HE0 : Aside0 (res = ([], 1)) := ⟨by
      rw [← HRES.out]
      unfold mustR
      rw [if_neg hn]⟩
    rw [hn'] at HNet
    clear hn hn'
    go_enter Try.func21, Try.ntmps21
    go_wp2_with (go_at_call 23; with_reducible refine (HNet.out _ H0.out).mono ?_; rintro e W1 ⟨rfl, hb⟩; have H1 := Aside0.mk (H0.out.next hb); clear hb s0 s1 s2 s3; have s2 := cell_two H1.out.blk 2 rfl)
    go_ret2
    rw [HE0.out]
    exact ⟨_, rfl, Kd.R_nil _ _ _ _ _, H1.out.bel⟩
end Go.Proofs.Ytbjinkkmakhbaaa.Print
