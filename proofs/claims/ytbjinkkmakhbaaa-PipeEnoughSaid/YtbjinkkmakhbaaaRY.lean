/- The document's Lay, in the code's words. -/
import Derived.Test.YtbjinkkmakhbaaaRX
namespace Go.Proofs.Ytbjinkkmakhbaaa.Print
open Go.RowKit Go.Shelf Go.Proofs.YtbjinkkmakhbaaaW.PrintWords Go.Proofs.YtbjinkkmakhbaaaW.PrintLast Go.Proofs.YtbjinkkmakhbaaaW.PrintMore
set_option linter.unusedVariables false
set_option linter.unusedSimpArgs false
attribute [local go_sem] Oper.semAt_some
theorem enL_is (lo hi : Int) (js : List S50) (ms : List S54) : ∀ k, ∀ x ∈ enL lo hi js ms k, ∃ s : Nat, x = ((s : Int), costN s 0 ms) ∧ s < k ∧ isEn lo hi js ms s = true
  | 0, x, h => by simp [enL] at h
  | k + 1, x, h => by
    rw [enL, List.mem_append] at h
    rcases h with h | h
    · obtain ⟨s, h1, h2, h3⟩ := enL_is lo hi js ms k x h
      exact ⟨s, h1, by omega, h3⟩
    · by_cases he : isEn lo hi js ms k = true
      · rw [if_pos he, List.mem_singleton] at h
        exact ⟨k, h, by omega, he⟩
      · rw [if_neg he] at h
        simp at h
theorem enS_at {lo hi : Int} {js : List S50} {ms : List S54} {N k : Nat} (hk : k < (enS lo hi js ms N).length) : ∃ (s : Nat) (h : k < (enL lo hi js ms N).length), (enL lo hi js ms N)[k] = ((s : Int), costN s 0 ms) ∧ s < N ∧ rd (enS lo hi js ms N) (k : Int) = (s : Int) := by
  have h : k < (enL lo hi js ms N).length := by unfold enS at hk; simpa using hk
  obtain ⟨s, h1, h2, _⟩ := enL_is lo hi js ms N _ (List.getElem_mem h)
  refine ⟨s, h, h1, h2, ?_⟩
  unfold rd enS
  rw [Int.toNat_natCast, List.getD_eq_getElem?_getD, List.getElem?_map, List.getElem?_eq_getElem h, h1]
  rfl
theorem bestF_take {L : List (Int × Int)} {k : Nat} (h : k < L.length) : bestF (L.take (k + 1)) = bestS (bestF (L.take k)) L[k] := by
  rw [List.take_succ_eq_append_getElem h, bestF_snoc]
/-- The sets that are enough, in hand. -/
structure LyAt (w W : World) (lo hi : Int) (A : Option Addr) (c : Nat) (js : List S50) (A' : Option Addr) (c' : Nat) (ms : List S54) (Ae : Option Addr) (ce : Nat) (L : List Int) : Prop where
  net : NetAt w W w.heap.size lo hi A c js A' c' ms
  own : Kd.R (Kd.int .i64) 3 W w.heap.size (fun _ => True) (.slice Ae L.length ce) L
theorem LyAt.next {w W W' : World} {lo hi : Int} {A : Option Addr} {c : Nat} {js : List S50} {A' : Option Addr} {c' : Nat} {ms : List S54} {Ae : Option Addr} {ce : Nat} {L : List Int} (h : LyAt w W lo hi A c js A' c' ms Ae ce L) (hb : Below W.heap.size W W') : LyAt w W' lo hi A c js A' c' ms Ae ce L := ⟨h.net.next hb, Kd.R_below h.own hb⟩
theorem C_own {W : World} {B : Nat} {ok : Nat → Prop} {A : Option Addr} {c : Nat} {L : List Int} (h : Kd.R (Kd.int .i64) 3 W B ok (.slice A L.length c) L) : Kd.C (Kd.int .i64) W A L.length L ∧ L.length ≤ c := by
  obtain ⟨A2, c2, e, h1, h2⟩ := Kd.R_reads h
  obtain ⟨rfl, _, rfl⟩ := Value.slice.inj e
  exact ⟨h2, h1⟩
set_option maxHeartbeats 4000000 in
set_option maxRecDepth 100000 in
theorem rLay_any (lo hi : Int) (A : Option Addr) (c : Nat) (js : List S50) (A' : Option Addr) (c' : Nat) (ms : List S54) (w : World) (hr : Kd.C k50 w A js.length js) (hc : js.length ≤ c) (hr' : Kd.C k54 w A' ms.length ms) (hc' : ms.length ≤ c') (hl : js.length ≤ 9223372036854775806) (hml0 : ms.length ≤ 9223372036854775806) :
    Calls Try.prog 19 #[.agg #[.int .i64 lo, .int .i64 hi, .slice A js.length c, .slice A' ms.length c']] w fun e w' => ∃ v : Value, e = .returned (.tuple #[v, .int .i64 (layS lo hi js ms).2.1, .int .i64 (layS lo hi js ms).2.2]) ∧ Kd.R (Kd.int .i64) 3 w' w.heap.size (fun _ => True) v (layS lo hi js ms).1 ∧ Below w.heap.size w w' := by
  have H0 : Aside0 (NetAt w (w.alloc (.cells (netC lo hi A js.length c A' ms.length c') 27)) w.heap.size lo hi A c js A' c' ms) := ⟨⟨blk_new w _, Kd.C_alloc hr _, Kd.C_alloc hr' _, below_alloc (Below.refl _ _) _⟩⟩
  have s0 := cell_two H0.out.blk 0 rfl
  have s1 := cell_two H0.out.blk 1 rfl
  have s2 := cell_two H0.out.blk 2 rfl
  have s3 := cell_two H0.out.blk 3 rfl
  have HNet : Aside0 (∀ W, NetAt w W w.heap.size lo hi A c js A' c' ms → Calls Try.prog 23 #[.agg #[.int .i64 lo, .int .i64 hi, .slice A js.length c, .slice A' ms.length c']] W fun e w' => e = .returned (.bool (netB lo hi js ms)) ∧ Below W.heap.size W w') := ⟨fun W h => rNetwork_any lo hi A c js A' c' ms W h.jr hc h.mr hc' hl hml0⟩
  clear hr hr'
  obtain ⟨res, hres⟩ : ∃ r, layS lo hi js ms = r := ⟨_, rfl⟩
  rw [hres]
  have HRES := Aside0.mk hres
  clear hres
  by_cases hn : netB lo hi js ms = true
  · have HOK := Aside0.mk (net_ok hn)
    have HNB := Aside0.mk hn
    rw [hn] at HNet
    clear hn
    have hml := HOK.out.few
    have HEn : Aside0 (∀ W, NetAt w W w.heap.size lo hi A c js A' c' ms → Calls Try.prog 45 #[.agg #[.int .i64 lo, .int .i64 hi, .slice A js.length c, .slice A' ms.length c']] W fun e w' => ∃ v, e = .returned v ∧ Kd.R (Kd.int .i64) 3 w' W.heap.size (fun _ => True) v (enS lo hi js ms (2 ^ ms.length)) ∧ Below W.heap.size W w') := ⟨fun W h => rEnough_any HOK.out W h.jr hc h.mr hc'⟩
    have hp8 : 2 ^ ms.length ≤ 256 := Nat.le_trans (Nat.pow_le_pow_right (by decide) hml) (by decide)
    have hLl : (enS lo hi js ms (2 ^ ms.length)).length ≤ 256 := Nat.le_trans (enS_len lo hi js ms _) hp8
    have HLi : Aside0 (∀ (s : Nat) (W : World), s < 256 → NetAt w W w.heap.size lo hi A c js A' c' ms → Calls Try.prog 46 #[.agg #[.int .i64 lo, .int .i64 hi, .slice A js.length c, .slice A' ms.length c'], .int .i64 (s : Int)] W fun e w' => ∃ v, e = .returned (.tuple #[v, .int .i64 (costN s 0 ms)]) ∧ Kd.R (Kd.int .i64) 3 w' W.heap.size (fun _ => True) v (listL s ms.length) ∧ Below W.heap.size W w') := ⟨fun s W hs h => gasworksref06_list.calls 40 lo hi A c js A' c' ms (s : Int) _ _ W h.jr hc h.mr hc' (list_ok HOK.out (by omega) (by omega))⟩
    have HAT : Aside0 (∀ k : Nat, k < (enS lo hi js ms (2 ^ ms.length)).length → ∃ (s : Nat), s < 256 ∧ (∃ (h : k < (enL lo hi js ms (2 ^ ms.length)).length), (enL lo hi js ms (2 ^ ms.length))[k] = ((s : Int), costN s 0 ms)) ∧ s < 2 ^ ms.length ∧ rd (enS lo hi js ms (2 ^ ms.length)) (k : Int) = (s : Int)) := ⟨fun k hk => by
      obtain ⟨s, h, h1, h2, h3⟩ := enS_at hk
      exact ⟨s, by omega, ⟨h, h1⟩, h2, h3⟩⟩
    have hLE : (enS lo hi js ms (2 ^ ms.length)).length = (enL lo hi js ms (2 ^ ms.length)).length := by unfold enS; simp
    have HLY : Aside0 (layS lo hi js ms = if (bestF (enL lo hi js ms (2 ^ ms.length))).1 < 0 then ([], 0, 4) else (listL (bestF (enL lo hi js ms (2 ^ ms.length))).1.toNat 8, (bestF (enL lo hi js ms (2 ^ ms.length))).2, 0)) := ⟨by unfold layS; rw [if_pos HNB.out]⟩
    have HP8 := Aside0.mk hp8
    clear hp8
    generalize enS lo hi js ms (2 ^ ms.length) = L at HEn hLl HAT hLE
    generalize enL lo hi js ms (2 ^ ms.length) = E at HAT hLE HLY
    have HLE := Aside0.mk hLE
    clear hLE
    by_cases hne : L = []
    · have hz : ((L.length : Int) == 0) = true := by rw [hne]; rfl
      have HE0 : Aside0 (res = ([], 0, 4)) := ⟨by
        have h1 : E = [] := List.eq_nil_of_length_eq_zero (by rw [← HLE.out, hne]; rfl)
        rw [← HRES.out, HLY.out, h1]
        rfl⟩
      clear hne
      go_enter Try.func19, Try.ntmps19
      go_wp2_with (first
        | (go_at_call 23; (with_reducible refine (HNet.out _ H0.out).mono ?_); rintro e W1 ⟨rfl, hb⟩; have H1 := Aside0.mk (H0.out.next hb); clear hb s0 s1 s2 s3; have s0 := cell_two H1.out.blk 0 rfl; have s1 := cell_two H1.out.blk 1 rfl; have s2 := cell_two H1.out.blk 2 rfl; have s3 := cell_two H1.out.blk 3 rfl)
        | (go_at_call 45; (with_reducible refine (HEn.out _ H1.out).mono ?_); rintro e W2 ⟨v, rfl, hR, hb⟩; obtain ⟨Ae, ce, rfl⟩ := Kd.R_slice hR; have H2 := Aside0.mk (H1.out.next hb); clear hb hR s0 s1 s2 s3))
      go_ret3
      rw [HE0.out]
      exact ⟨_, rfl, Kd.R_nil _ _ _ _ _, H2.out.bel⟩
    · have hpos : 0 < L.length := List.length_pos_iff.2 hne
      have hz : ((L.length : Int) == 0) = false := by
        rw [beq_eq_false_iff_ne]
        omega
      have p0 : (0 : Int) < (L.length : Int) := by omega
      clear hne
      obtain ⟨t0, ht8, ⟨hE0, hx0⟩, htn, hrd0⟩ := HAT.out 0 hpos
      have HT0 := Aside0.mk (And.intro htn (⟨hE0, hx0⟩ : ∃ h : 0 < E.length, E[0] = ((t0 : Int), costN t0 0 ms)))
      have hrd0' : rd L 0 = (t0 : Int) := hrd0
      clear htn hx0 hE0 hrd0
      have HRD := Aside0.mk hrd0'
      clear hrd0'
      go_enter Try.func19, Try.ntmps19
      go_upto_region 6 with (first
        | (go_at_call 23; (with_reducible refine (HNet.out _ H0.out).mono ?_); rintro e W1 ⟨rfl, hb⟩; have H1 := Aside0.mk (H0.out.next hb); clear hb s0 s1 s2 s3; have s0 := cell_two H1.out.blk 0 rfl; have s1 := cell_two H1.out.blk 1 rfl; have s2 := cell_two H1.out.blk 2 rfl; have s3 := cell_two H1.out.blk 3 rfl)
        | (go_at_call 45; (with_reducible refine (HEn.out _ H1.out).mono ?_); rintro e W2 ⟨v, rfl, hR, hb⟩; obtain ⟨Ae, ce, rfl⟩ := Kd.R_slice hR; have H2 : Aside0 (LyAt w W2 lo hi A c js A' c' ms Ae ce L) := ⟨⟨H1.out.next hb, Kd.R_lower hR H1.out.bel.size⟩⟩; clear hb hR s0 s1 s2 s3; have s0 := cell_two H2.out.net.blk 0 rfl; have s1 := cell_two H2.out.net.blk 1 rfl; have s2 := cell_two H2.out.net.blk 2 rfl; have s3 := cell_two H2.out.net.blk 3 rfl; obtain ⟨ad, e, g0⟩ := Kd.at_int (C_own H2.out.own).1 0 (Int.le_refl 0) p0; subst e; rw [show ((0 : Int)).toNat = 0 from rfl, Addr.add_zero', HRD.out] at g0))
      go_region_held3 (fun w' => w'.cell? ⟨w.heap.size, 0, none⟩ = some (.int .i64 lo) ∧ w'.cell? ⟨w.heap.size, 1, none⟩ = some (.int .i64 hi) ∧ w'.cell? ⟨w.heap.size, 2, none⟩ = some (.slice A js.length c) ∧ w'.cell? ⟨w.heap.size, 3, none⟩ = some (.slice A' ms.length c') ∧ w'.cell? ad = some (.int .i64 (t0 : Int))) (go_keep)
        ((go_at_call 46; refine (HLi.out t0 _ ht8 (H2.out.net.next (Below.drew (Below.refl _ W2)))).mono ?_; rintro e W3 ⟨v, rfl, hR, hb⟩; obtain ⟨Av, cv, rfl⟩ := Kd.R_slice hR; have HB3 := Aside0.mk ((Below.drew (Below.refl W2.heap.size W2)).trans hb); have HV3 := Aside0.mk (Kd.R_lower hR (show w.heap.size ≤ W2.drew.heap.size from H2.out.net.bel.size)); clear hR hb; have z0 := (HB3.out.cell (World.block_lt_of_cell? _ _ s0)).trans s0; have z1 := (HB3.out.cell (World.block_lt_of_cell? _ _ s1)).trans s1; have z2 := (HB3.out.cell (World.block_lt_of_cell? _ _ s2)).trans s2; have z3 := (HB3.out.cell (World.block_lt_of_cell? _ _ s3)).trans s3; have zg := (HB3.out.cell (World.block_lt_of_cell? _ _ g0)).trans g0))
      have H3 := Aside0.mk (H2.out.next HB3.out)
      clear s0 s1 s2 s3 z0 z1 z2 z3 g0 zg H1 H2 HB3 p0 hz
      have HB0 : Aside0 (∃ b : Int × Int, b = bestF (E.take 1) ∧ 0 ≤ b.1 ∧ b.1 < 256 ∧ b.1 < ((2 ^ ms.length : Nat) : Int) ∧ listL t0 ms.length = listL b.1.toNat ms.length ∧ costN t0 0 ms = b.2) := ⟨by
        obtain ⟨htn, h1, h2⟩ := HT0.out
        refine ⟨_, rfl, ?_⟩
        have e : bestF (E.take (0 + 1)) = ((t0 : Int), costN t0 0 ms) := by
          rw [bestF_take h1, List.take_zero, h2]
          rfl
        rw [show 1 = 0 + 1 from rfl, e]
        refine ⟨by show (0 : Int) ≤ (t0 : Int); omega, by show (t0 : Int) < 256; omega, ?_, by rw [Int.toNat_natCast], rfl⟩
        show (t0 : Int) < ((2 ^ ms.length : Nat) : Int)
        exact Int.ofNat_lt.2 htn⟩
      obtain ⟨b0, hb0, hb1, hb2, hb3, hb4, hb5⟩ := HB0.out
      rw [hb5]
      rw [hb4] at HV3 ⊢
      have HBB := Aside0.mk (And.intro hb0 (And.intro hb1 (And.intro hb2 hb3)))
      clear hb0 hb1 hb2 hb3 hb4 hb5 HB0
      go_wp2_with (fail)
      go_loopw [6, 7, 8] (fun v b i wr => ∃ (k : Nat) (Av : Option Addr) (cv : Nat) (b1 : Int × Int), i = .int .i64 (k : Int) ∧ k ≤ L.length ∧ v = .slice Av (listL b1.1.toNat ms.length).length cv ∧ b = .int .i64 b1.2 ∧ Aside0 (b1 = bestF (E.take k) ∧ 0 ≤ b1.1 ∧ b1.1 < 256 ∧ b1.1 < ((2 ^ ms.length : Nat) : Int)) ∧ Aside0 (LyAt w wr lo hi A c js A' c' ms (some ad) ce L) ∧ Aside0 (Kd.R (Kd.int .i64) 3 wr w.heap.size (fun _ => True) (.slice Av (listL b1.1.toNat ms.length).length cv) (listL b1.1.toNat ms.length))) (fun _ _ i _ => L.length - (intOf i).toNat)
      case atStart => exact ⟨1, Av, cv, b0, rfl, by omega, rfl, rfl, HBB, H3, HV3⟩
      case round =>
        clear HBB H3 HV3 HT0 HRD
        obtain ⟨k, Av, cv, b1, rfl, hk, rfl, rfl, HBB, HL, HV⟩ := hrel
        have s0 := cell_two HL.out.net.blk 0 rfl
        have s1 := cell_two HL.out.net.blk 1 rfl
        have s2 := cell_two HL.out.net.blk 2 rfl
        have s3 := cell_two HL.out.net.blk 3 rfl
        by_cases hlt : k < L.length
        · have hlt' : decide ((k : Int) < (L.length : Int)) = true := decide_eq_true (by omega)
          have k0 : (0 : Int) ≤ (k : Int) := Int.natCast_nonneg k
          have k1 : (k : Int) < (L.length : Int) := by omega
          obtain ⟨t, ht, ⟨hE, hx⟩, htn, hrd⟩ := HAT.out k hlt
          have hbs : bestF (E.take (k + 1)) = bestS b1 ((t : Int), costN t 0 ms) := by rw [bestF_take hE, hx, ← HBB.out.1]
          have HX := Aside0.mk (And.intro htn hbs)
          clear htn hbs hE hx
          obtain ⟨ad2, e, g0⟩ := Kd.at_int (C_own HL.out.own).1 (k : Int) k0 k1
          obtain rfl := Option.some.inj e
          rw [hrd, Int.toNat_natCast] at g0
          have HRD := Aside0.mk hrd
          clear hrd e
          go_upto_region 10 with (fail)
          go_region_held3 (fun w' => w'.cell? ⟨w.heap.size, 0, none⟩ = some (.int .i64 lo) ∧ w'.cell? ⟨w.heap.size, 1, none⟩ = some (.int .i64 hi) ∧ w'.cell? ⟨w.heap.size, 2, none⟩ = some (.slice A js.length c) ∧ w'.cell? ⟨w.heap.size, 3, none⟩ = some (.slice A' ms.length c') ∧ w'.cell? (ad.add k) = some (.int .i64 (t : Int))) (go_keep)
            ((go_at_call 46; refine (HLi.out t _ ht (HL.out.net.next (Below.drew (Below.refl _ wr)))).mono ?_; rintro e W3 ⟨v, rfl, hR, hb⟩; obtain ⟨A3, c3, rfl⟩ := Kd.R_slice hR; have HB3 := Aside0.mk ((Below.drew (Below.refl wr.heap.size wr)).trans hb); have HV3 := Aside0.mk (Kd.R_lower hR (show w.heap.size ≤ wr.drew.heap.size from HL.out.net.bel.size)); clear hR hb; have z0 := (HB3.out.cell (World.block_lt_of_cell? _ _ s0)).trans s0; have z1 := (HB3.out.cell (World.block_lt_of_cell? _ _ s1)).trans s1; have z2 := (HB3.out.cell (World.block_lt_of_cell? _ _ s2)).trans s2; have z3 := (HB3.out.cell (World.block_lt_of_cell? _ _ s3)).trans s3; have zg := (HB3.out.cell (World.block_lt_of_cell? _ _ g0)).trans g0))
          have H3 := Aside0.mk (HL.out.next HB3.out)
          have HVo := Aside0.mk (Kd.R_below HV.out HB3.out)
          clear s0 s1 s2 s3 z0 z1 z2 z3 g0 zg HL HV HB3
          by_cases hlow : costN t 0 ms < b1.2
          · have d1 : decide (costN t 0 ms < b1.2) = true := decide_eq_true hlow
            have HNX : Aside0 (((t : Int), costN t 0 ms) = bestF (E.take (k + 1)) ∧ (0 : Int) ≤ (t : Int) ∧ (t : Int) < 256 ∧ (t : Int) < ((2 ^ ms.length : Nat) : Int)) := ⟨by
              refine ⟨?_, by omega, by omega, Int.ofNat_lt.2 HX.out.1⟩
              rw [HX.out.2, bestS, if_pos (.inr hlow)]⟩
            clear hlow
            go_wp2_with (fail)
            go_roundw
            case rel => exact ⟨k + 1, A3, c3, ((t : Int), costN t 0 ms), by go_num, by omega, rfl, rfl, HNX, H3, HV3⟩
            case measure => simp [intOf]; omega
          · have d1 : decide (costN t 0 ms < b1.2) = false := decide_eq_false hlow
            have HNX : Aside0 (b1 = bestF (E.take (k + 1)) ∧ (0 : Int) ≤ b1.1 ∧ b1.1 < 256 ∧ b1.1 < ((2 ^ ms.length : Nat) : Int)) := ⟨by
              refine ⟨?_, HBB.out.2⟩
              rw [HX.out.2, bestS, if_neg]
              rintro (h | h)
              · have := HBB.out.2.1
                omega
              · exact hlow h⟩
            clear hlow
            go_wp2_with (fail)
            go_roundw
            case rel => exact ⟨k + 1, Av, cv, b1, by go_num, by omega, rfl, rfl, HNX, H3, HVo⟩
            case measure => simp [intOf]; omega
        · have hlt' : decide ((k : Int) < (L.length : Int)) = false := decide_eq_false (by omega)
          have HRE : Aside0 (res = (listL b1.1.toNat ms.length, b1.2, 0)) := ⟨by
            have hkE : E.take k = E := List.take_of_length_le (by have := HLE.out; omega)
            have h1 := HBB.out
            rw [hkE] at h1
            rw [← HRES.out, HLY.out, ← h1.1, if_neg (by omega), listL_low (n := ms.length) (by omega) 8 (by omega)]⟩
          go_wp2_with (fail)
          go_ret3
          rw [HRE.out]
          exact ⟨_, rfl, HV.out, HL.out.net.bel⟩
  · have hn' : netB lo hi js ms = false := by simpa using hn
    have HE0 : Aside0 (res = ([], 0, 1)) := ⟨by
      rw [← HRES.out]
      unfold layS
      rw [if_neg hn]⟩
    rw [hn'] at HNet
    clear hn hn'
    go_enter Try.func19, Try.ntmps19
    go_wp2_with (go_at_call 23; with_reducible refine (HNet.out _ H0.out).mono ?_; rintro e W1 ⟨rfl, hb⟩; have H1 := Aside0.mk (H0.out.next hb); clear hb s0 s1 s2 s3; have s2 := cell_two H1.out.blk 2 rfl)
    go_ret3
    rw [HE0.out]
    exact ⟨_, rfl, Kd.R_nil _ _ _ _ _, H1.out.bel⟩
end Go.Proofs.Ytbjinkkmakhbaaa.Print
