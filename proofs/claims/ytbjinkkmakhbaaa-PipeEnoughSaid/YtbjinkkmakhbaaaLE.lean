/- The law PipeEnough, walked. -/
import Derived.Test.YtbjinkkmakhbaaaPE
import Derived.Test.YtbjinkkmakhbaaaHS
import Derived.Test.YtbjinkkmakhbaaaLP
namespace Go.Proofs.Ytbjinkkmakhbaaa.Print
open Go.RowKit Go.Shelf Go.Proofs.YtbjinkkmakhbaaaW.PrintWords Go.Proofs.YtbjinkkmakhbaaaW.PrintLast Go.Proofs.YtbjinkkmakhbaaaW.PrintMore
set_option linter.unusedVariables false
set_option linter.unusedSimpArgs false
attribute [local go_sem] Oper.semAt_some
structure EgAt (w W : World) (lo hi : Int) (A : Option Addr) (c : Nat) (js : List S50) (A' : Option Addr) (c' : Nat) (ms : List S54) (Al : Option Addr) (L : List Int) (Am : Option Addr) (M : List Int) : Prop where
  net : NetAt w W w.heap.size lo hi A c js A' c' ms
  lw : Kd.C (Kd.int .i64) W Al L.length L
  mw : Kd.C (Kd.int .i64) W Am M.length M
theorem EgAt.next {w W W' : World} {lo hi : Int} {A : Option Addr} {c : Nat} {js : List S50} {A' : Option Addr} {c' : Nat} {ms : List S54} {Al : Option Addr} {L : List Int} {Am : Option Addr} {M : List Int} (h : EgAt w W lo hi A c js A' c' ms Al L Am M) (hb : Below W.heap.size W W') : EgAt w W' lo hi A c js A' c' ms Al L Am M := ⟨h.net.next hb, Kd.C_below h.lw hb, Kd.C_below h.mw hb⟩
/-- Of a list of mains: each is one, and they rise. -/
def Rises (n : Nat) (L : List Int) : Prop := L.length ≤ 300 ∧ ∀ i : Nat, i < L.length → ∃ q : Nat, rd L (i : Int) = (q : Int) ∧ q < n ∧ ∀ i' : Nat, i = i' + 1 → rd L (i' : Int) < (q : Int)
theorem rises_nil (n : Nat) : Rises n [] := ⟨by simp, fun i h => by simp at h⟩
theorem rises_list {n t : Nat} (hn : n ≤ 8) : Rises n (listL t n) := ⟨Nat.le_trans (listL_len t n) (by omega), fun i h => by
  obtain ⟨q, h1, h2, _⟩ := listL_at t n i h
  refine ⟨q, h1, h2, fun i' e => ?_⟩
  subst e
  rw [← h1]
  exact listL_rise t n i' h⟩
theorem cost_up {ms : List S54} (hm : anyM 0 ms = false) {L : List Int} (h : Rises ms.length L) : ∀ i, i ≤ L.length → 0 ≤ costL ms (L.take i) ∧ costL ms (L.take i) ≤ 1000000 * i
  | 0, _ => by simp [costL]
  | i + 1, hi => by
    have ih := cost_up hm h i (by omega)
    obtain ⟨q, hq, hn, _⟩ := h.2 i (by omega)
    rw [take_rd (by omega), costL_snoc, hq]
    have := (mains_ok hm q hn).2.2.2
    omega
theorem pow_named {q : Nat} (hq : q < 9) : ∃ p : Nat, p = 2 ^ q ∧ p ≤ 256 ∧ wrap64 ((2 : Int) ^ q) = (p : Int) := by
  have h1 : 2 ^ q ≤ 256 := Nat.le_trans (Nat.pow_le_pow_right (by decide) (by omega : q ≤ 8)) (by decide)
  have e : (2 : Int) ^ q = ((2 ^ q : Nat) : Int) := by simp
  rw [e]
  generalize 2 ^ q = p at h1
  exact ⟨p, rfl, h1, w64 (by omega) (by omega)⟩
theorem rem_named {o : Int} {N : Nat} (h0 : 0 ≤ o) (hN : 0 < N) : ∃ z : Nat, Int.tmod o (N : Int) = (z : Int) ∧ z < N := by
  obtain ⟨m, rfl⟩ := Int.eq_ofNat_of_zero_le h0
  refine ⟨m % N, ?_, Nat.mod_lt _ hN⟩
  rw [Int.tmod_eq_emod_of_nonneg (by omega)]
  rfl
theorem set_w {s p : Nat} (h : s ≤ 256) (hp : p ≤ 256) : wrap64 ((s : Int) + (p : Int)) = ((s + p : Nat) : Int) := by rw [w64 (by omega) (by omega)]; omega
theorem cost_w {a b : Int} (h0 : 0 ≤ a) (h1 : a ≤ 1000000000) (h2 : 1 ≤ b) (h3 : b ≤ 1000000) : wrap64 (a + b) = a + b := w64 (by omega) (by omega)
/-- Lay and Must: lists, what they cost, errors. -/
theorem lay_facts {lo hi : Int} {js : List S50} {ms : List S54} (hok : NetOk lo hi js ms) : ∃ (L M : List Int) (ct e f : Int), layS lo hi js ms = (L, ct, e) ∧ mustR lo hi js ms = (M, f) ∧ Rises ms.length L ∧ Rises ms.length M ∧ setL L ≤ 255 ∧
    ((e = 4 ∧ f = 4 ∧ L = [] ∧ ct = 0 ∧ M = [] ∧ ∀ z, z < 2 ^ ms.length → isEn lo hi js ms z = false) ∨
     (e = 0 ∧ f = 0 ∧ costL ms L = ct ∧ isEn lo hi js ms (setL L) = true ∧ (∀ z, z < 2 ^ ms.length → isEn lo hi js ms z = true → ct ≤ costN z 0 ms ∧ (costN z 0 ms = ct → setL L ≤ z)) ∧
      (∀ i q : Nat, i < M.length → rd M (i : Int) = (q : Int) → (setL L).testBit q = true) ∧ (∀ z, z < 2 ^ ms.length → isEn lo hi js ms z = true → ∀ i q : Nat, i < M.length → rd M (i : Int) = (q : Int) → z.testBit q = true))) := by
  have hl := hok.few
  have hp8 : 2 ^ ms.length ≤ 256 := Nat.le_trans (Nat.pow_le_pow_right (by decide) hl) (by decide)
  rcases lay_case hok with ⟨h1, h2, h3⟩ | ⟨t, S, h1, h2, ht, he, hmin, hS, hSz⟩
  · exact ⟨[], [], 0, 4, 4, h1, h2, rises_nil _, rises_nil _, by simp [setL], .inl ⟨rfl, rfl, rfl, rfl, rfl, h3⟩⟩
  · have hset : setL (listL t ms.length) = t := by rw [setL_list, Nat.mod_eq_of_lt ht]
    have hM : ∀ i q : Nat, i < (listL S ms.length).length → rd (listL S ms.length) (i : Int) = (q : Int) → q < ms.length ∧ S.testBit q = true := fun i q hi hq => by
      obtain ⟨q2, e2, h3, h4⟩ := listL_at S ms.length i hi
      have : q2 = q := by omega
      subst this
      exact ⟨h3, h4⟩
    refine ⟨listL t ms.length, listL S ms.length, costN t 0 ms, 0, 0, h1, h2, rises_list hl, rises_list hl, by rw [hset]; omega, .inr ⟨rfl, rfl, ?_, by rw [hset]; exact he, by rw [hset]; exact hmin, fun i q hi hq => ?_, fun z hz hez i q hi hq => ?_⟩⟩
    · rw [costL_list t ms.length (Nat.le_refl _), List.take_length]
    · rw [hset]
      exact hS q (hM i q hi hq).1 (hM i q hi hq).2
    · exact hSz z hz hez q (hM i q hi hq).1 (hM i q hi hq).2
set_option maxHeartbeats 8000000 in
set_option maxRecDepth 100000 in
theorem enough_walk (lo hi : Int) (A : Option Addr) (c : Nat) (js : List S50) (A' : Option Addr) (c' : Nat) (ms : List S54) (o : Int) (w : World) (hr : Kd.C k50 w A js.length js) (hc : js.length ≤ c) (hr' : Kd.C k54 w A' ms.length ms) (hc' : ms.length ≤ c') (how : (Lit.int .u8 o).wf = true) :
    Calls Try.prog 8 #[.agg #[.int .i64 lo, .int .i64 hi, .slice A js.length c, .slice A' ms.length c'], .int .u8 o] w fun e w' => e = .returned (.bool true) ∧ Below w.heap.size w w' := by
  have ho : 0 ≤ o ∧ o ≤ 255 := by
    have h2 : (decide ((0 : Int) ≤ o) && decide (o ≤ (255 : Int))) = true := how
    rw [Bool.and_eq_true, decide_eq_true_eq, decide_eq_true_eq] at h2
    exact h2
  clear how
  have H0 : Aside0 (NetAt w (w.alloc (.cells (netC lo hi A js.length c A' ms.length c') 27)) w.heap.size lo hi A c js A' c' ms) := ⟨⟨blk_new w _, Kd.C_alloc hr _, Kd.C_alloc hr' _, below_alloc (Below.refl _ _) _⟩⟩
  have s0 := cell_two H0.out.blk 0 rfl
  have s1 := cell_two H0.out.blk 1 rfl
  have s2 := cell_two H0.out.blk 2 rfl
  have s3 := cell_two H0.out.blk 3 rfl
  have HLg : Aside0 (∀ W, NetAt w W w.heap.size lo hi A c js A' c' ms → Calls Try.prog 10 #[.agg #[.int .i64 lo, .int .i64 hi, .slice A js.length c, .slice A' ms.length c'], .int .i64 8] W fun e w' => e = .returned (.bool (largeB js ms 8)) ∧ Below W.heap.size W w') := ⟨fun W h => large_any lo hi A c js A' c' ms 8 W h.jr hc h.mr hc'⟩
  clear hr hr'
  by_cases hlg : largeB js ms 8 = true
  · rw [hlg] at HLg
    clear hlg
    go_enter Try.func8, Try.ntmps8
    go_wp2_with (first
      | (go_at_call 10; (with_reducible refine (HLg.out _ H0.out).mono ?_); rintro e W1 ⟨rfl, hb⟩; have H1 := Aside0.mk (H0.out.next hb); clear hb s0 s1 s2 s3)
      | (go_at_call 11; (with_reducible refine (awake_any _).mono ?_); rintro e W2 ⟨rfl, hb⟩; have HB2 := Aside0.mk (bl_next' H1.out.bel hb); clear hb))
    go_ret
    exact ⟨rfl, HB2.out⟩
  · have hlf : largeB js ms 8 = false := by simpa using hlg
    have hl : js.length ≤ 9223372036854775806 ∧ ms.length ≤ 9223372036854775806 := by
      simp only [largeB, Bool.or_eq_false_iff, Bool.and_eq_false_iff, decide_eq_false_iff_not] at hlf
      omega
    rw [hlf] at HLg
    clear hlg hlf
    have HFd : Aside0 (∀ W, NetAt w W w.heap.size lo hi A c js A' c' ms → _) := ⟨fun W h => Lay_any lo hi A c js A' c' ms W h.jr hc h.mr hc'⟩
    have HMd : Aside0 (∀ W, NetAt w W w.heap.size lo hi A c js A' c' ms → _) := ⟨fun W h => Must_any lo hi A c js A' c' ms W h.jr hc h.mr hc'⟩
    by_cases hn : netB lo hi js ms = true
    · have HOK := Aside0.mk (net_ok hn)
      have HNet : Aside0 (∀ W, NetAt w W w.heap.size lo hi A c js A' c' ms → Calls Try.prog 23 #[.agg #[.int .i64 lo, .int .i64 hi, .slice A js.length c, .slice A' ms.length c']] W fun e w' => e = .returned (.bool true) ∧ Below W.heap.size W w') := ⟨fun W h => by rw [← hn]; exact rNetwork_any lo hi A c js A' c' ms W h.jr hc h.mr hc' hl.1 hl.2⟩
      clear hn hl
      have hl8 := HOK.out.few
      have HHas : Aside0 (∀ (s k : Nat) (W : World), s < 256 → k < 9 → Calls Try.prog 29 #[.int .i64 (s : Int), .int .i64 (k : Int)] W fun e w' => e = .returned (.bool (s.testBit k)) ∧ Below W.heap.size W w') := ⟨fun s k W hs hk => (gasworksref06_Has.calls 20 (s : Int) (k : Int) _ W (has_ok (by omega) (by omega) (by omega))).mono (by rintro e w' ⟨rfl, nd, rfl⟩; exact ⟨rfl, pw_below_drewN (Below.refl _ _) nd⟩)⟩
      have HWi : Aside0 (∀ (s : Nat) (W : World), s < 256 → NetAt w W w.heap.size lo hi A c js A' c' ms → _) := ⟨fun s W hs h => rWith_any (A := A) (c := c) HOK.out (s := s) (by omega) W h.mr hc'⟩
      have HFw : Aside0 (∀ (s : Nat) (x1 : Int) (x2 : Bool) (W : World) (B : Option Addr) (d : Nat), faultT lo hi js (withN s 0 ms) = (x1, x2, if isEn lo hi js ms s = true then 4 else 0) → NetAt w W w.heap.size lo hi A c js A' c' ms → Kd.C k54 W B (withN s 0 ms).length (withN s 0 ms) → (withN s 0 ms).length ≤ d → Calls Try.prog 16 #[.agg #[.int .i64 lo, .int .i64 hi, .slice A js.length c, .slice B (withN s 0 ms).length d]] W fun e w' => e = .returned (.tuple #[.int .i64 x1, .bool x2, .int .i64 (if isEn lo hi js ms s = true then 4 else 0)]) ∧ Below W.heap.size W w') := ⟨fun s x1 x2 W B d he h hm hd => by
        have h1 := Fault_any lo hi A c js B d (withN s 0 ms) W h.jr hc hm hd
        rw [he] at h1
        exact h1⟩
      obtain ⟨L, M, ct, e, f, hly, hmu, hRL, hRM, hsl, hcase⟩ := lay_facts HOK.out
      rw [hly] at HFd
      rw [hmu] at HMd
      have HRL := Aside0.mk hRL
      have HRM := Aside0.mk hRM
      have HSL := Aside0.mk hsl
      have HCASE := Aside0.mk hcase
      have he1 : (e == 1) = false := by rcases hcase with h | h <;> (rw [h.1]; rfl)
      clear hly hmu hRL hRM hsl hcase
      simp only at HFd HMd
      have hL3 : L.length ≤ 300 := HRL.out.1
      go_enter Try.func8, Try.ntmps8
      go_wp2_with (first
        | (go_at_call 10; (with_reducible refine (HLg.out _ H0.out).mono ?_); rintro e W1 ⟨rfl, hb⟩; have H1 := Aside0.mk (H0.out.next hb); clear hb s0 s1 s2 s3; have s0 := cell_two H1.out.blk 0 rfl; have s1 := cell_two H1.out.blk 1 rfl; have s2 := cell_two H1.out.blk 2 rfl; have s3 := cell_two H1.out.blk 3 rfl)
        | (go_at_call 18; (with_reducible refine (HFd.out _ H1.out).mono ?_); rintro e2 W2 ⟨v, rfl, hR, hb⟩; obtain ⟨Al, cl, rfl⟩ := Kd.R_slice hR; have V2 := Aside0.mk hR; have H2 := Aside0.mk (H1.out.next hb); clear hR hb s0 s1 s2 s3; have s0 := cell_two H2.out.blk 0 rfl; have s1 := cell_two H2.out.blk 1 rfl; have s2 := cell_two H2.out.blk 2 rfl; have s3 := cell_two H2.out.blk 3 rfl)
        | (go_at_call 20; (with_reducible refine (HMd.out _ H2.out).mono ?_); rintro e3 W3 ⟨v, rfl, hR, hb⟩; obtain ⟨Am, cm, rfl⟩ := Kd.R_slice hR; have H3 : Aside0 (EgAt w W3 lo hi A c js A' c' ms Al L Am M) := ⟨⟨H2.out.next hb, (C_own (Kd.R_below V2.out hb)).1, (C_own hR).1⟩⟩; clear hR hb s0 s1 s2 s3; have s0 := cell_two H3.out.net.blk 0 rfl; have s1 := cell_two H3.out.net.blk 1 rfl; have s2 := cell_two H3.out.net.blk 2 rfl; have s3 := cell_two H3.out.net.blk 3 rfl)
        | (go_at_call 23; (with_reducible refine (HNet.out _ H3.out.net).mono ?_); rintro e4 W4 ⟨rfl, hb⟩; have H4 := Aside0.mk (H3.out.next hb); clear hb s0 s1 s2 s3))
      clear H0 H1 H2 H3 V2
      go_loopw [10, 11, 12] (fun a b i wr => ∃ (k st : Nat) (sm : Int), i = .int .i64 (k : Int) ∧ k ≤ L.length ∧ a = .int .i64 (st : Int) ∧ b = .int .i64 sm ∧ Aside0 (st = setL (L.take k) ∧ sm = costL ms (L.take k)) ∧ Aside0 (EgAt w wr lo hi A c js A' c' ms Al L Am M)) (fun _ _ i _ => L.length - (intOf i).toNat)
      case atStart => exact ⟨0, 0, 0, rfl, by omega, rfl, rfl, ⟨rfl, rfl⟩, H4⟩
      case round =>
        clear H4
        obtain ⟨k, st, sm, rfl, hk, rfl, rfl, HS, HL⟩ := hrel
        have s3 := cell_two HL.out.net.blk 3 rfl
        by_cases hlt : k < L.length
        · have hlt' : decide ((k : Int) < (L.length : Int)) = true := decide_eq_true (by omega)
          obtain ⟨q, hq, hqn, hqr⟩ := HRL.out.2 k hlt
          have k0 : (0 : Int) ≤ (k : Int) := Int.natCast_nonneg k
          have k1 : (k : Int) < (L.length : Int) := by omega
          have q0 : (0 : Int) ≤ (q : Int) := Int.natCast_nonneg q
          have q1 : (q : Int) < (ms.length : Int) := by omega
          obtain ⟨ad, ee, g0⟩ := Kd.at_int HL.out.lw (k : Int) k0 k1
          rw [hq, Int.toNat_natCast] at g0
          obtain ⟨ad2, ee2, f0, f1, f2, f3⟩ := at_T54 HL.out.net.mr (q : Int) q0 q1
          simp only [Int.toNat_natCast] at f0 f1 f2 f3
          obtain ⟨p, hp, hp8, hwp⟩ := pow_named (q := q) (by omega)
          have hst : st ≤ 256 := by
            have := setL_le L k
            have := HSL.out
            have := HS.out.1
            omega
          have hw1 := set_w hst hp8
          have hcu := cost_up HOK.out.mok HRL.out k hk
          have hm3 := (mains_ok HOK.out.mok q hqn).2.2.2
          have hsm : 0 ≤ sm ∧ sm ≤ 1000000000 := by rw [HS.out.2]; omega
          obtain ⟨m3, hm⟩ : ∃ x, (rd_T54 ms (q : Int)).f3 = x := ⟨_, rfl⟩
          rw [hm] at f3 hm3
          have hw2 := cost_w hsm.1 hsm.2 hm3.1 hm3.2
          have HNX : Aside0 (st + p = setL (L.take (k + 1)) ∧ sm + m3 = costL ms (L.take (k + 1))) := ⟨by
            rw [take_rd hlt, setL_snoc, costL_snoc, hq, Int.toNat_natCast, ← HS.out.1, ← HS.out.2, hp, hm]
            exact ⟨rfl, rfl⟩⟩
          have dn : decide ((q : Int) < 0) = false := decide_eq_false (by omega)
          have dg : decide ((ms.length : Int) ≤ (q : Int)) = false := decide_eq_false (by omega)
          have dg2 : decide ((q : Int) < (ms.length : Int)) = true := decide_eq_true (by omega)
          have hnle : ¬ ms.length ≤ q := by omega
          have HQ := Aside0.mk (And.intro hq hqr)
          clear hp hp8 hst hcu hm3 hsm hm f0 f1 f2 hq hqr
          subst ee
          subst ee2
          by_cases hk0 : k = 0
          · have d0 : decide ((0 : Int) < (k : Int)) = false := decide_eq_false (by omega)
            have d0' : ¬ 0 < k := by omega
            clear hk0
            go_wp2_with (fail)
            go_big_region
            go_wp2_with (fail)
            go_big_region
            go_wp2_with (fail)
            go_roundw
            case rel => exact ⟨k + 1, st + p, sm + m3, by go_num, by omega, by rw [hw1], by rw [hw2], HNX, ⟨HL.out.next (Below.drew (Below.drew (Below.refl _ _)))⟩⟩
            case measure => simp [intOf]; omega
          · have d0 : decide ((0 : Int) < (k : Int)) = true := decide_eq_true (by omega)
            have d0' : 0 < k := by omega
            obtain ⟨ad3, ee3, g1⟩ := Kd.at_int HL.out.lw ((k - 1 : Nat) : Int) (Int.natCast_nonneg _) (by omega)
            obtain rfl := Option.some.inj ee3
            rw [Int.toNat_natCast] at g1
            obtain ⟨x1, hx1⟩ : ∃ x, rd L ((k - 1 : Nat) : Int) = x := ⟨_, rfl⟩
            rw [hx1] at g1
            have dr : decide ((q : Int) ≤ x1) = false := decide_eq_false (by have := HQ.out.2 (k - 1) (by omega); omega)
            clear hk0 hx1 ee3
            go_wp2_with (fail)
            go_big_region
            go_wp2_with (fail)
            go_big_region
            go_wp2_with (fail)
            go_roundw
            case rel => exact ⟨k + 1, st + p, sm + m3, by go_num, by omega, by rw [hw1], by rw [hw2], HNX, ⟨HL.out.next (Below.drew (Below.drew (Below.refl _ _)))⟩⟩
            case measure => simp [intOf]; omega
        · have hlt' : decide ((k : Int) < (L.length : Int)) = false := decide_eq_false (by omega)
          have hkL : L.take k = L := List.take_of_length_le (by omega)
          have HT : Aside0 (st = setL L ∧ sm = costL ms L) := ⟨by
            have h := HS.out
            rw [hkL] at h
            exact h⟩
          clear hkL HS
          obtain ⟨N, hN, hN8, hwN⟩ := pow_named (q := ms.length) (by omega)
          have hNp : 0 < N := by rw [hN]; exact Nat.pow_pos (by decide)
          have hwo : wrap64 o = o := w64 (by omega) (by omega)
          have hzN : ((N : Int) == 0) = false := by rw [beq_eq_false_iff_ne]; omega
          have hN0 : ¬ N = 0 := by omega
          obtain ⟨z, hz, hzl⟩ := rem_named ho.1 hNp
          have hz8 : z < 256 := by omega
          have HZ : Aside0 (z < 2 ^ ms.length) := ⟨by rw [← hN]; exact hzl⟩
          clear hN hN8 hNp hzl
          go_wp2_with (fail)
          clear s3
          go_loopw [14, 15] (fun a i wr2 => ∃ (k2 : Nat) (pr : Int), i = .int .i64 (k2 : Int) ∧ k2 ≤ ms.length ∧ a = .int .i64 pr ∧ Aside0 (pr = costN z 0 (ms.take k2)) ∧ Aside0 (EgAt w wr2 lo hi A c js A' c' ms Al L Am M)) (fun _ i _ => ms.length - (intOf i).toNat)
          case atStart => exact ⟨0, 0, rfl, by omega, rfl, ⟨rfl⟩, HL⟩
          case round =>
            clear HL hlt hlt' hwo hwN hzN hN0 hz
            obtain ⟨k2, pr, rfl, hk2, rfl, HP, HL⟩ := hrel
            have s0 := cell_two HL.out.net.blk 0 rfl
            have s1 := cell_two HL.out.net.blk 1 rfl
            have s2 := cell_two HL.out.net.blk 2 rfl
            have s3 := cell_two HL.out.net.blk 3 rfl
            by_cases hlt : k2 < ms.length
            · have hlt' : decide ((k2 : Int) < (ms.length : Int)) = true := decide_eq_true (by omega)
              have k0 : (0 : Int) ≤ (k2 : Int) := Int.natCast_nonneg k2
              have k1 : (k2 : Int) < (ms.length : Int) := by omega
              have hk9 : k2 < 9 := by omega
              have hcs := cost_succ z ms k2 hlt
              cases hb : z.testBit k2
              · have HNX : Aside0 (pr = costN z 0 (ms.take (k2 + 1))) := ⟨by rw [hcs, hb, HP.out]; simp⟩
                have HHk : Aside0 (∀ W, Calls Try.prog 29 #[.int .i64 (z : Int), .int .i64 (k2 : Int)] W fun e w' => e = .returned (.bool false) ∧ Below W.heap.size W w') := ⟨fun W => by rw [← hb]; exact HHas.out z k2 W hz8 hk9⟩
                clear hcs hb
                go_wp2_with (go_at_call 29; (with_reducible refine (HHk.out _).mono ?_); rintro e5 W5 ⟨rfl, hb⟩; have H5 := Aside0.mk (HL.out.next hb); clear hb s0 s1 s2 s3)
                go_roundw
                case rel => exact ⟨k2 + 1, pr, by go_num, by omega, rfl, HNX, H5⟩
                case measure => simp [intOf]; omega
              · have hcb := cost_bd z HOK.out.mok k2 hlt
                have hm3 := (mains_ok HOK.out.mok k2 hlt).2.2.2
                obtain ⟨m3, hm⟩ : ∃ x, (rd_T54 ms (k2 : Int)).f3 = x := ⟨_, rfl⟩
                rw [hm] at hm3 hcs
                have hw2 : wrap64 (pr + m3) = pr + m3 := cost_w (by rw [HP.out]; exact hcb.1) (by rw [HP.out]; omega) hm3.1 hm3.2
                have HNX : Aside0 (pr + m3 = costN z 0 (ms.take (k2 + 1))) := ⟨by rw [hcs, hb, HP.out]; rfl⟩
                have HHk : Aside0 (∀ W, Calls Try.prog 29 #[.int .i64 (z : Int), .int .i64 (k2 : Int)] W fun e w' => e = .returned (.bool true) ∧ Below W.heap.size W w') := ⟨fun W => by rw [← hb]; exact HHas.out z k2 W hz8 hk9⟩
                have HM3 := Aside0.mk hm
                clear hcs hb hcb hm3 hm
                go_wp2_with (go_at_call 29; (with_reducible refine (HHk.out _).mono ?_); rintro e5 W5 ⟨rfl, hb⟩; have H5 := Aside0.mk (HL.out.next hb); clear hb s0 s1 s2 s3; have s3 := cell_two H5.out.net.blk 3 rfl; obtain ⟨ad, ee, f0, f1, f2, f3⟩ := at_T54 H5.out.net.mr (k2 : Int) k0 k1; subst ee; simp only [Int.toNat_natCast] at f0 f1 f2 f3; rw [HM3.out] at f3; clear f0 f1 f2)
                go_roundw
                case rel => exact ⟨k2 + 1, pr + m3, by go_num, by omega, by rw [hw2], HNX, H5⟩
                case measure => simp [intOf]; omega
            · have hlt' : decide ((k2 : Int) < (ms.length : Int)) = false := decide_eq_false (by omega)
              have HPR : Aside0 (pr = costN z 0 ms) := ⟨by rw [HP.out, List.take_of_length_le (by omega)]⟩
              clear HP
              obtain ⟨y1, y2, hfz⟩ := faultT_en HOK.out z
              obtain ⟨g, hg⟩ : ∃ g : Int, (if isEn lo hi js ms z = true then (4 : Int) else 0) = g := ⟨_, rfl⟩
              have HFz : Aside0 (∀ (W : World) (B : Option Addr) (d : Nat), NetAt w W w.heap.size lo hi A c js A' c' ms → Kd.C k54 W B (withN z 0 ms).length (withN z 0 ms) → (withN z 0 ms).length ≤ d → Calls Try.prog 16 #[.agg #[.int .i64 lo, .int .i64 hi, .slice A js.length c, .slice B (withN z 0 ms).length d]] W fun e w' => e = .returned (.tuple #[.int .i64 y1, .bool y2, .int .i64 g]) ∧ Below W.heap.size W w') := ⟨fun W B d h1 h2 h3 => by rw [← hg]; exact HFw.out z y1 y2 W B d hfz h1 h2 h3⟩
              have HG := Aside0.mk hg
              clear hfz hg
              rcases HCASE.out with ⟨he, hf, hLn, hct, hMn, hen⟩ | ⟨he, hf, hcl, hT, hmin, hMt, hMz⟩
              · have dg0 : (g == 0) = true := by rw [← HG.out, hen z HZ.out]; rfl
                have dL : ((L.length : Int) == 0) = true := by rw [hLn]; rfl
                have dM : ((M.length : Int) == 0) = true := by rw [hMn]; rfl
                have dct : (ct == 0) = true := by rw [hct]; rfl
                have de0 : (e != 0) = true := by rw [he]; rfl
                have de4 : (e == 4) = true := by rw [he]; rfl
                have dfe : (f == e) = true := by rw [he, hf]; rfl
                clear he hf hLn hct hMn hen
                go_wp2_with (first
                  | (go_at_call 28; (with_reducible refine (HWi.out z _ hz8 HL.out.net).mono ?_); rintro e5 W5 ⟨B5, d5, rfl, hC, hd, hb⟩; have H5 := Aside0.mk (HL.out.next hb); have HC5 := Aside0.mk (And.intro hC hd); clear hC hd hb s0 s1 s2 s3)
                  | (go_at_call 16; (with_reducible refine (HFz.out _ B5 d5 H5.out.net HC5.out.1 HC5.out.2).mono ?_); rintro e6 W6 ⟨rfl, hb⟩; have H6 := Aside0.mk (H5.out.next hb); clear hb)
                  | (go_at_call 11; (with_reducible refine (awake_any _).mono ?_); rintro e8 W8 ⟨rfl, hb⟩; have HB8 := Aside0.mk (bl_next' H6.out.net.bel hb); clear hb))
                go_ret
                exact ⟨rfl, HB8.out⟩
              · obtain ⟨x1, x2, hfT⟩ := faultT_en HOK.out (setL L)
                have hst8 : st < 256 := by have := HT.out.1; have := HSL.out; omega
                have HFt : Aside0 (∀ (W : World) (B : Option Addr) (d : Nat), NetAt w W w.heap.size lo hi A c js A' c' ms → Kd.C k54 W B (withN st 0 ms).length (withN st 0 ms) → (withN st 0 ms).length ≤ d → Calls Try.prog 16 #[.agg #[.int .i64 lo, .int .i64 hi, .slice A js.length c, .slice B (withN st 0 ms).length d]] W fun e w' => e = .returned (.tuple #[.int .i64 x1, .bool x2, .int .i64 4]) ∧ Below W.heap.size W w') := ⟨fun W B d h1 h2 h3 => by
                  rw [HT.out.1] at h2 h3 ⊢
                  have h4 := HFw.out (setL L) x1 x2 W B d hfT h1 h2 h3
                  rw [if_pos hT] at h4
                  exact h4⟩
                have de0 : (e != 0) = false := by rw [he]; rfl
                have df0 : (f != 0) = false := by rw [hf]; rfl
                have dsc : (sm != ct) = false := by rw [HT.out.2, hcl]; simp
                have HMT : Aside0 (∀ i q : Nat, i < M.length → rd M (i : Int) = (q : Int) → st.testBit q = true) := ⟨by rw [HT.out.1]; exact hMt⟩
                have HMZ := Aside0.mk hMz
                have HMIN := Aside0.mk (hmin z HZ.out)
                clear he hf hcl hT hmin hMt hMz hfT
                cases hez : isEn lo hi js ms z
                · have dg4 : (g == 4) = false := by rw [← HG.out, hez]; rfl
                  clear hez
                  as_aux_lemma =>
                    go_wp2_with (first
                      | (go_at_call 28; have hgu := H6.out; clear hgu; (with_reducible refine (HWi.out st _ hst8 H6.out.net).mono ?_); rintro e7 W7 ⟨B7, d7, rfl, hC, hd, hb⟩; have H7 := Aside0.mk (H6.out.next hb); have HC7 := Aside0.mk (And.intro hC hd); clear hC hd hb s0 s1 s2 s3)
                      | (go_at_call 28; (with_reducible refine (HWi.out z _ hz8 HL.out.net).mono ?_); rintro e5 W5 ⟨B5, d5, rfl, hC, hd, hb⟩; have H5 := Aside0.mk (HL.out.next hb); have HC5 := Aside0.mk (And.intro hC hd); clear hC hd hb s0 s1 s2 s3)
                      | (go_at_call 16; have hgu := H7.out; clear hgu; (with_reducible refine (HFt.out _ B7 d7 H7.out.net HC7.out.1 HC7.out.2).mono ?_); rintro e8 W8 ⟨rfl, hb⟩; have H8 := Aside0.mk (H7.out.next hb); clear hb)
                      | (go_at_call 16; (with_reducible refine (HFz.out _ B5 d5 H5.out.net HC5.out.1 HC5.out.2).mono ?_); rintro e6 W6 ⟨rfl, hb⟩; have H6 := Aside0.mk (H5.out.next hb); clear hb; have s0 := cell_two H6.out.net.blk 0 rfl; have s1 := cell_two H6.out.net.blk 1 rfl; have s2 := cell_two H6.out.net.blk 2 rfl; have s3 := cell_two H6.out.net.blk 3 rfl))
                    go_loopw [22] (fun i wr3 => ∃ (k3 : Nat), i = .int .i64 (k3 : Int) ∧ k3 ≤ M.length ∧ Aside0 (EgAt w wr3 lo hi A c js A' c' ms Al L Am M)) (fun i _ => M.length - (intOf i).toNat)
                    case atStart => exact ⟨0, rfl, by omega, H8⟩
                    case round =>
                      clear H5 H6 H7 H8 HC5 HC7 HL hlt hlt'
                      obtain ⟨k3, rfl, hk3, HL⟩ := hrel
                      have s3 := cell_two HL.out.net.blk 3 rfl
                      by_cases hlt : k3 < M.length
                      · have hlt' : decide ((k3 : Int) < (M.length : Int)) = true := decide_eq_true (by omega)
                        obtain ⟨q, hq, hqn, hqr⟩ := HRM.out.2 k3 hlt
                        have hM3 : M.length ≤ 300 := HRM.out.1
                        have k0 : (0 : Int) ≤ (k3 : Int) := Int.natCast_nonneg k3
                        have k1 : (k3 : Int) < (M.length : Int) := by omega
                        obtain ⟨ad, ee, g0⟩ := Kd.at_int HL.out.mw (k3 : Int) k0 k1
                        rw [hq, Int.toNat_natCast] at g0
                        have HHs : Aside0 (∀ W, Calls Try.prog 29 #[.int .i64 (st : Int), .int .i64 (q : Int)] W fun e w' => e = .returned (.bool true) ∧ w' = W) := ⟨fun W => (has_same st q (by omega) (by omega) W).mono (by rw [HMT.out k3 q hlt hq]; rintro e w' ⟨h, rfl⟩; exact ⟨h, rfl⟩)⟩
                        have dn : decide ((q : Int) < 0) = false := decide_eq_false (by omega)
                        have dg : decide ((ms.length : Int) ≤ (q : Int)) = false := decide_eq_false (by omega)
                        have dg2 : decide ((q : Int) < (ms.length : Int)) = true := decide_eq_true (by omega)
                        have hnle : ¬ ms.length ≤ q := by omega
                        have HQ := Aside0.mk (And.intro hq hqr)
                        clear hq hqr
                        subst ee
                        by_cases hk0 : k3 = 0
                        · have d0 : decide ((0 : Int) < (k3 : Int)) = false := decide_eq_false (by omega)
                          have d0' : ¬ 0 < k3 := by omega
                          clear hk0
                          go_wp2_with (fail)
                          go_quiet ((go_at_call 29; exact Calls.quiet_of_same (HHs.out _)))
                          go_wp2_with (fail)
                          go_roundw
                          case rel => exact ⟨k3 + 1, by go_num, by omega, ⟨HL.out.next (pw_below_drewN (Below.refl _ _) _)⟩⟩
                          case measure => simp [intOf]; omega
                        · have d0 : decide ((0 : Int) < (k3 : Int)) = true := decide_eq_true (by omega)
                          have d0' : 0 < k3 := by omega
                          obtain ⟨ad3, ee3, g1⟩ := Kd.at_int HL.out.mw ((k3 - 1 : Nat) : Int) (Int.natCast_nonneg _) (by omega)
                          obtain rfl := Option.some.inj ee3
                          rw [Int.toNat_natCast] at g1
                          obtain ⟨x1, hx1⟩ : ∃ x, rd M ((k3 - 1 : Nat) : Int) = x := ⟨_, rfl⟩
                          rw [hx1] at g1
                          have dr : decide ((q : Int) ≤ x1) = false := decide_eq_false (by have := HQ.out.2 (k3 - 1) (by omega); omega)
                          clear hk0 hx1 ee3
                          go_wp2_with (fail)
                          go_quiet ((go_at_call 29; exact Calls.quiet_of_same (HHs.out _)))
                          go_wp2_with (fail)
                          go_roundw
                          case rel => exact ⟨k3 + 1, by go_num, by omega, ⟨HL.out.next (pw_below_drewN (Below.refl _ _) _)⟩⟩
                          case measure => simp [intOf]; omega
                      · have hlt' : decide ((k3 : Int) < (M.length : Int)) = false := decide_eq_false (by omega)
                        go_wp2_with (go_at_call 11; (with_reducible refine (awake_any _).mono ?_); rintro e9 W9 ⟨rfl, hb⟩; have HB9 := Aside0.mk (bl_next' HL.out.net.bel hb); clear hb)
                        go_ret
                        exact ⟨rfl, HB9.out⟩
                · have dg4 : (g == 4) = true := by rw [← HG.out, hez]; rfl
                  have hmn := HMIN.out hez
                  rw [← HPR.out, ← HT.out.1] at hmn
                  have dlt : decide (pr < ct) = false := decide_eq_false (by omega)
                  have HZQ : Aside0 (∀ i q : Nat, i < M.length → rd M (i : Int) = (q : Int) → z.testBit q = true) := ⟨HMZ.out z HZ.out hez⟩
                  clear hez
                  by_cases hpc : pr = ct
                  · have dpc : (pr == ct) = true := by rw [hpc]; simp
                    have dzs : decide ((z : Int) < (st : Int)) = false := decide_eq_false (by have := hmn.2 hpc; omega)
                    have dzs2 : ¬ z < st := by have := hmn.2 hpc; omega
                    clear hpc hmn
                    as_aux_lemma =>
                      go_wp2_with (first
                        | (go_at_call 28; have hgu := H6.out; clear hgu; (with_reducible refine (HWi.out st _ hst8 H6.out.net).mono ?_); rintro e7 W7 ⟨B7, d7, rfl, hC, hd, hb⟩; have H7 := Aside0.mk (H6.out.next hb); have HC7 := Aside0.mk (And.intro hC hd); clear hC hd hb s0 s1 s2 s3)
                        | (go_at_call 28; (with_reducible refine (HWi.out z _ hz8 HL.out.net).mono ?_); rintro e5 W5 ⟨B5, d5, rfl, hC, hd, hb⟩; have H5 := Aside0.mk (HL.out.next hb); have HC5 := Aside0.mk (And.intro hC hd); clear hC hd hb s0 s1 s2 s3)
                        | (go_at_call 16; have hgu := H7.out; clear hgu; (with_reducible refine (HFt.out _ B7 d7 H7.out.net HC7.out.1 HC7.out.2).mono ?_); rintro e8 W8 ⟨rfl, hb⟩; have H8 := Aside0.mk (H7.out.next hb); clear hb)
                        | (go_at_call 16; (with_reducible refine (HFz.out _ B5 d5 H5.out.net HC5.out.1 HC5.out.2).mono ?_); rintro e6 W6 ⟨rfl, hb⟩; have H6 := Aside0.mk (H5.out.next hb); clear hb; have s0 := cell_two H6.out.net.blk 0 rfl; have s1 := cell_two H6.out.net.blk 1 rfl; have s2 := cell_two H6.out.net.blk 2 rfl; have s3 := cell_two H6.out.net.blk 3 rfl))
                      go_loopw [22] (fun i wr3 => ∃ (k3 : Nat), i = .int .i64 (k3 : Int) ∧ k3 ≤ M.length ∧ Aside0 (EgAt w wr3 lo hi A c js A' c' ms Al L Am M)) (fun i _ => M.length - (intOf i).toNat)
                      case atStart => exact ⟨0, rfl, by omega, H8⟩
                      case round =>
                        clear H5 H6 H7 H8 HC5 HC7 HL hlt hlt'
                        obtain ⟨k3, rfl, hk3, HL⟩ := hrel
                        have s3 := cell_two HL.out.net.blk 3 rfl
                        by_cases hlt : k3 < M.length
                        · have hlt' : decide ((k3 : Int) < (M.length : Int)) = true := decide_eq_true (by omega)
                          obtain ⟨q, hq, hqn, hqr⟩ := HRM.out.2 k3 hlt
                          have hM3 : M.length ≤ 300 := HRM.out.1
                          have k0 : (0 : Int) ≤ (k3 : Int) := Int.natCast_nonneg k3
                          have k1 : (k3 : Int) < (M.length : Int) := by omega
                          obtain ⟨ad, ee, g0⟩ := Kd.at_int HL.out.mw (k3 : Int) k0 k1
                          rw [hq, Int.toNat_natCast] at g0
                          have HHs : Aside0 (∀ W, Calls Try.prog 29 #[.int .i64 (st : Int), .int .i64 (q : Int)] W fun e w' => e = .returned (.bool true) ∧ w' = W) := ⟨fun W => (has_same st q (by omega) (by omega) W).mono (by rw [HMT.out k3 q hlt hq]; rintro e w' ⟨h, rfl⟩; exact ⟨h, rfl⟩)⟩
                          have HHz : Aside0 (∀ W, Calls Try.prog 29 #[.int .i64 (z : Int), .int .i64 (q : Int)] W fun e w' => e = .returned (.bool true) ∧ w' = W) := ⟨fun W => (has_same z q (by omega) (by omega) W).mono (by rw [HZQ.out k3 q hlt hq]; rintro e w' ⟨h, rfl⟩; exact ⟨h, rfl⟩)⟩
                          have dn : decide ((q : Int) < 0) = false := decide_eq_false (by omega)
                          have dg : decide ((ms.length : Int) ≤ (q : Int)) = false := decide_eq_false (by omega)
                          have dg2 : decide ((q : Int) < (ms.length : Int)) = true := decide_eq_true (by omega)
                          have hnle : ¬ ms.length ≤ q := by omega
                          have HQ := Aside0.mk (And.intro hq hqr)
                          clear hq hqr
                          subst ee
                          by_cases hk0 : k3 = 0
                          · have d0 : decide ((0 : Int) < (k3 : Int)) = false := decide_eq_false (by omega)
                            have d0' : ¬ 0 < k3 := by omega
                            clear hk0
                            go_wp2_with (fail)
                            go_quiet ((first | (go_at_call 29; (with_reducible exact Calls.quiet_of_same (HHs.out _))) | (go_at_call 29; (with_reducible exact Calls.quiet_of_same (HHz.out _)))))
                            go_wp2_with (fail)
                            go_roundw
                            case rel => exact ⟨k3 + 1, by go_num, by omega, ⟨HL.out.next (pw_below_drewN (Below.refl _ _) _)⟩⟩
                            case measure => simp [intOf]; omega
                          · have d0 : decide ((0 : Int) < (k3 : Int)) = true := decide_eq_true (by omega)
                            have d0' : 0 < k3 := by omega
                            obtain ⟨ad3, ee3, g1⟩ := Kd.at_int HL.out.mw ((k3 - 1 : Nat) : Int) (Int.natCast_nonneg _) (by omega)
                            obtain rfl := Option.some.inj ee3
                            rw [Int.toNat_natCast] at g1
                            obtain ⟨x1, hx1⟩ : ∃ x, rd M ((k3 - 1 : Nat) : Int) = x := ⟨_, rfl⟩
                            rw [hx1] at g1
                            have dr : decide ((q : Int) ≤ x1) = false := decide_eq_false (by have := HQ.out.2 (k3 - 1) (by omega); omega)
                            clear hk0 hx1 ee3
                            go_wp2_with (fail)
                            go_quiet ((first | (go_at_call 29; (with_reducible exact Calls.quiet_of_same (HHs.out _))) | (go_at_call 29; (with_reducible exact Calls.quiet_of_same (HHz.out _)))))
                            go_wp2_with (fail)
                            go_roundw
                            case rel => exact ⟨k3 + 1, by go_num, by omega, ⟨HL.out.next (pw_below_drewN (Below.refl _ _) _)⟩⟩
                            case measure => simp [intOf]; omega
                        · have hlt' : decide ((k3 : Int) < (M.length : Int)) = false := decide_eq_false (by omega)
                          go_wp2_with (go_at_call 11; (with_reducible refine (awake_any _).mono ?_); rintro e9 W9 ⟨rfl, hb⟩; have HB9 := Aside0.mk (bl_next' HL.out.net.bel hb); clear hb)
                          go_ret
                          exact ⟨rfl, HB9.out⟩
                  · have dpc : (pr == ct) = false := by rw [beq_eq_false_iff_ne]; exact hpc
                    clear hpc hmn
                    as_aux_lemma =>
                      go_wp2_with (first
                        | (go_at_call 28; have hgu := H6.out; clear hgu; (with_reducible refine (HWi.out st _ hst8 H6.out.net).mono ?_); rintro e7 W7 ⟨B7, d7, rfl, hC, hd, hb⟩; have H7 := Aside0.mk (H6.out.next hb); have HC7 := Aside0.mk (And.intro hC hd); clear hC hd hb s0 s1 s2 s3)
                        | (go_at_call 28; (with_reducible refine (HWi.out z _ hz8 HL.out.net).mono ?_); rintro e5 W5 ⟨B5, d5, rfl, hC, hd, hb⟩; have H5 := Aside0.mk (HL.out.next hb); have HC5 := Aside0.mk (And.intro hC hd); clear hC hd hb s0 s1 s2 s3)
                        | (go_at_call 16; have hgu := H7.out; clear hgu; (with_reducible refine (HFt.out _ B7 d7 H7.out.net HC7.out.1 HC7.out.2).mono ?_); rintro e8 W8 ⟨rfl, hb⟩; have H8 := Aside0.mk (H7.out.next hb); clear hb)
                        | (go_at_call 16; (with_reducible refine (HFz.out _ B5 d5 H5.out.net HC5.out.1 HC5.out.2).mono ?_); rintro e6 W6 ⟨rfl, hb⟩; have H6 := Aside0.mk (H5.out.next hb); clear hb; have s0 := cell_two H6.out.net.blk 0 rfl; have s1 := cell_two H6.out.net.blk 1 rfl; have s2 := cell_two H6.out.net.blk 2 rfl; have s3 := cell_two H6.out.net.blk 3 rfl))
                      go_loopw [22] (fun i wr3 => ∃ (k3 : Nat), i = .int .i64 (k3 : Int) ∧ k3 ≤ M.length ∧ Aside0 (EgAt w wr3 lo hi A c js A' c' ms Al L Am M)) (fun i _ => M.length - (intOf i).toNat)
                      case atStart => exact ⟨0, rfl, by omega, H8⟩
                      case round =>
                        clear H5 H6 H7 H8 HC5 HC7 HL hlt hlt'
                        obtain ⟨k3, rfl, hk3, HL⟩ := hrel
                        have s3 := cell_two HL.out.net.blk 3 rfl
                        by_cases hlt : k3 < M.length
                        · have hlt' : decide ((k3 : Int) < (M.length : Int)) = true := decide_eq_true (by omega)
                          obtain ⟨q, hq, hqn, hqr⟩ := HRM.out.2 k3 hlt
                          have hM3 : M.length ≤ 300 := HRM.out.1
                          have k0 : (0 : Int) ≤ (k3 : Int) := Int.natCast_nonneg k3
                          have k1 : (k3 : Int) < (M.length : Int) := by omega
                          obtain ⟨ad, ee, g0⟩ := Kd.at_int HL.out.mw (k3 : Int) k0 k1
                          rw [hq, Int.toNat_natCast] at g0
                          have HHs : Aside0 (∀ W, Calls Try.prog 29 #[.int .i64 (st : Int), .int .i64 (q : Int)] W fun e w' => e = .returned (.bool true) ∧ w' = W) := ⟨fun W => (has_same st q (by omega) (by omega) W).mono (by rw [HMT.out k3 q hlt hq]; rintro e w' ⟨h, rfl⟩; exact ⟨h, rfl⟩)⟩
                          have HHz : Aside0 (∀ W, Calls Try.prog 29 #[.int .i64 (z : Int), .int .i64 (q : Int)] W fun e w' => e = .returned (.bool true) ∧ w' = W) := ⟨fun W => (has_same z q (by omega) (by omega) W).mono (by rw [HZQ.out k3 q hlt hq]; rintro e w' ⟨h, rfl⟩; exact ⟨h, rfl⟩)⟩
                          have dn : decide ((q : Int) < 0) = false := decide_eq_false (by omega)
                          have dg : decide ((ms.length : Int) ≤ (q : Int)) = false := decide_eq_false (by omega)
                          have dg2 : decide ((q : Int) < (ms.length : Int)) = true := decide_eq_true (by omega)
                          have hnle : ¬ ms.length ≤ q := by omega
                          have HQ := Aside0.mk (And.intro hq hqr)
                          clear hq hqr
                          subst ee
                          by_cases hk0 : k3 = 0
                          · have d0 : decide ((0 : Int) < (k3 : Int)) = false := decide_eq_false (by omega)
                            have d0' : ¬ 0 < k3 := by omega
                            clear hk0
                            go_wp2_with (fail)
                            go_quiet ((first | (go_at_call 29; (with_reducible exact Calls.quiet_of_same (HHs.out _))) | (go_at_call 29; (with_reducible exact Calls.quiet_of_same (HHz.out _)))))
                            go_wp2_with (fail)
                            go_roundw
                            case rel => exact ⟨k3 + 1, by go_num, by omega, ⟨HL.out.next (pw_below_drewN (Below.refl _ _) _)⟩⟩
                            case measure => simp [intOf]; omega
                          · have d0 : decide ((0 : Int) < (k3 : Int)) = true := decide_eq_true (by omega)
                            have d0' : 0 < k3 := by omega
                            obtain ⟨ad3, ee3, g1⟩ := Kd.at_int HL.out.mw ((k3 - 1 : Nat) : Int) (Int.natCast_nonneg _) (by omega)
                            obtain rfl := Option.some.inj ee3
                            rw [Int.toNat_natCast] at g1
                            obtain ⟨x1, hx1⟩ : ∃ x, rd M ((k3 - 1 : Nat) : Int) = x := ⟨_, rfl⟩
                            rw [hx1] at g1
                            have dr : decide ((q : Int) ≤ x1) = false := decide_eq_false (by have := HQ.out.2 (k3 - 1) (by omega); omega)
                            clear hk0 hx1 ee3
                            go_wp2_with (fail)
                            go_quiet ((first | (go_at_call 29; (with_reducible exact Calls.quiet_of_same (HHs.out _))) | (go_at_call 29; (with_reducible exact Calls.quiet_of_same (HHz.out _)))))
                            go_wp2_with (fail)
                            go_roundw
                            case rel => exact ⟨k3 + 1, by go_num, by omega, ⟨HL.out.next (pw_below_drewN (Below.refl _ _) _)⟩⟩
                            case measure => simp [intOf]; omega
                        · have hlt' : decide ((k3 : Int) < (M.length : Int)) = false := decide_eq_false (by omega)
                          go_wp2_with (go_at_call 11; (with_reducible refine (awake_any _).mono ?_); rintro e9 W9 ⟨rfl, hb⟩; have HB9 := Aside0.mk (bl_next' HL.out.net.bel hb); clear hb)
                          go_ret
                          exact ⟨rfl, HB9.out⟩
    · have hla : layS lo hi js ms = ([], 0, 1) := by
        unfold layS
        rw [if_neg hn]
      have hma : mustR lo hi js ms = ([], 1) := by
        unfold mustR
        rw [if_neg hn]
      rw [hla] at HFd
      rw [hma] at HMd
      clear hla hma hn hl
      go_enter Try.func8, Try.ntmps8
      go_wp2_with (first
        | (go_at_call 10; (with_reducible refine (HLg.out _ H0.out).mono ?_); rintro e W1 ⟨rfl, hb⟩; have H1 := Aside0.mk (H0.out.next hb); clear hb s0 s1 s2 s3; have s0 := cell_two H1.out.blk 0 rfl; have s1 := cell_two H1.out.blk 1 rfl; have s2 := cell_two H1.out.blk 2 rfl; have s3 := cell_two H1.out.blk 3 rfl)
        | (go_at_call 18; (with_reducible refine (HFd.out _ H1.out).mono ?_); rintro e W2 ⟨v, rfl, hR, hb⟩; obtain ⟨A2, c2, rfl⟩ := Kd.R_slice hR; have H2 := Aside0.mk (H1.out.next hb); clear hR hb s0 s1 s2 s3; have s0 := cell_two H2.out.blk 0 rfl; have s1 := cell_two H2.out.blk 1 rfl; have s2 := cell_two H2.out.blk 2 rfl; have s3 := cell_two H2.out.blk 3 rfl)
        | (go_at_call 20; (with_reducible refine (HMd.out _ H2.out).mono ?_); rintro e W3 ⟨v, rfl, hR, hb⟩; obtain ⟨A3, c3, rfl⟩ := Kd.R_slice hR; have H3 := Aside0.mk (H2.out.next hb); clear hR hb s0 s1 s2 s3)
        | (go_at_call 11; (with_reducible refine (awake_any _).mono ?_); rintro e W8 ⟨rfl, hb⟩; have HB8 := Aside0.mk (bl_next' H3.out.bel hb); clear hb))
      go_ret
      exact ⟨rfl, HB8.out⟩
end Go.Proofs.Ytbjinkkmakhbaaa.Print
