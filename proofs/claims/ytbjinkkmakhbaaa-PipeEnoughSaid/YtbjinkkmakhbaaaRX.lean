/- The document's enough, in the code's words. -/
import Derived.Test.YtbjinkkmakhbaaaRV
namespace Go.Proofs.Ytbjinkkmakhbaaa.Print
open Go.RowKit Go.Shelf Go.Proofs.YtbjinkkmakhbaaaW.PrintWords Go.Proofs.YtbjinkkmakhbaaaW.PrintLast Go.Proofs.YtbjinkkmakhbaaaW.PrintMore
set_option linter.unusedVariables false
set_option linter.unusedSimpArgs false
attribute [local go_sem] Oper.semAt_some
theorem netB_of {lo hi : Int} {js : List S50} {ms : List S54} (h : NetOk lo hi js ms) : netB lo hi js ms = true := by
  have h1 := h.src
  have h2 := h.jl
  have h3 := h.ml
  simp only [netB, spanB, withinB, Bool.and_eq_true, decide_eq_true_eq, Bool.not_eq_true']
  exact ⟨⟨⟨⟨by omega, by omega⟩, by omega⟩, h.jok⟩, h.mok⟩
theorem faultT_en {lo hi : Int} {js : List S50} {ms : List S54} (hok : NetOk lo hi js ms) (s : Nat) : ∃ x1 x2, faultT lo hi js (withN s 0 ms) = (x1, x2, if isEn lo hi js ms s = true then 4 else 0) := by
  unfold faultT isEn
  rw [if_pos (netB_of (hok.with s))]
  cases h : (faultS lo hi js (withN s 0 ms)).2.2
  · exact ⟨0, false, by simp⟩
  · exact ⟨_, _, by simp; exact ⟨rfl, rfl⟩⟩
/-- The sets that are enough, below a number. -/
def enS (lo hi : Int) (js : List S50) (ms : List S54) (k : Nat) : List Int := (enL lo hi js ms k).map (·.1)
theorem enS_0 (lo hi : Int) (js : List S50) (ms : List S54) : enS lo hi js ms 0 = [] := rfl
theorem enS_succ (lo hi : Int) (js : List S50) (ms : List S54) (k : Nat) : enS lo hi js ms (k + 1) = enS lo hi js ms k ++ (if isEn lo hi js ms k = true then [(k : Int)] else []) := by
  unfold enS
  rw [enL, List.map_append]
  congr 1
  split <;> rfl
theorem enS_len (lo hi : Int) (js : List S50) (ms : List S54) : ∀ k, (enS lo hi js ms k).length ≤ k
  | 0 => by simp [enS_0]
  | k + 1 => by
    have := enS_len lo hi js ms k
    rw [enS_succ, List.length_append]
    split <;> simp <;> omega
structure EnAt (w W : World) (lo hi : Int) (A : Option Addr) (c : Nat) (js : List S50) (A' : Option Addr) (c' : Nat) (ms : List S54) (k : Nat) (v : Value) : Prop where
  net : NetAt w W w.heap.size lo hi A c js A' c' ms
  own : Kd.R (Kd.int .i64) 3 W w.heap.size (fun b => w.heap.size < b) v (enS lo hi js ms k)
theorem EnAt.next {w W W' : World} {lo hi : Int} {A : Option Addr} {c : Nat} {js : List S50} {A' : Option Addr} {c' : Nat} {ms : List S54} {k : Nat} {v : Value} (h : EnAt w W lo hi A c js A' c' ms k v) (hb : Below W.heap.size W W') : EnAt w W' lo hi A c js A' c' ms k v := ⟨h.net.next hb, Kd.R_below h.own hb⟩
theorem NetAt.grow {w W W' : World} {lo hi : Int} {A : Option Addr} {c : Nat} {js : List S50} {A' : Option Addr} {c' : Nat} {ms : List S54} (h : NetAt w W w.heap.size lo hi A c js A' c' ms) (hb : Below w.heap.size w W') (hj : Kd.C k50 W' A js.length js) (hm : Kd.C k54 W' A' ms.length ms) (hbl : W'.heap[w.heap.size]? = W.heap[w.heap.size]?) : NetAt w W' w.heap.size lo hi A c js A' c' ms := ⟨hbl.trans h.blk, hj, hm, hb⟩
set_option maxHeartbeats 4000000 in
set_option maxRecDepth 100000 in
theorem rEnough_any {lo hi : Int} {A : Option Addr} {c : Nat} {js : List S50} {A' : Option Addr} {c' : Nat} {ms : List S54} (hok : NetOk lo hi js ms) (w : World) (hr : Kd.C k50 w A js.length js) (hc : js.length ≤ c) (hr' : Kd.C k54 w A' ms.length ms) (hc' : ms.length ≤ c') :
    Calls Try.prog 45 #[.agg #[.int .i64 lo, .int .i64 hi, .slice A js.length c, .slice A' ms.length c']] w fun e w' => ∃ v, e = .returned v ∧ Kd.R (Kd.int .i64) 3 w' w.heap.size (fun _ => True) v (enS lo hi js ms (2 ^ ms.length)) ∧ Below w.heap.size w w' := by
  have hl := hok.few
  have hjl := hok.jl
  have hp8 : 2 ^ ms.length ≤ 256 := Nat.le_trans (Nat.pow_le_pow_right (by decide) hl) (by decide)
  have H0 : Aside0 (NetAt w (w.alloc (.cells (netC lo hi A js.length c A' ms.length c') 27)) w.heap.size lo hi A c js A' c' ms) := ⟨⟨blk_new w _, Kd.C_alloc hr _, Kd.C_alloc hr' _, below_alloc (Below.refl _ _) _⟩⟩
  have HPw : Aside0 (∀ W, Calls Try.prog 38 #[.int .i64 (ms.length : Int)] W fun e w' => e = .returned (.int .i64 ((2 ^ ms.length : Nat) : Int)) ∧ Below W.heap.size W w') := ⟨fun W => (gasworksref06_power.calls 20 (ms.length : Int) _ W (power_ok (by omega) (by omega))).mono (by rintro e w' ⟨rfl, nd, rfl⟩; exact ⟨rfl, pw_below_drewN (Below.refl _ _) nd⟩)⟩
  have HBASE := Aside0.mk (And.intro hr hr')
  clear hr hr'
  have HOK := Aside0.mk hok
  clear hok
  generalize hN : 2 ^ ms.length = N at hp8 HPw ⊢
  have HN := Aside0.mk hN
  clear hN
  go_enter Try.func45, Try.ntmps45
  go_wp2_with (fail)
  go_loopw [3, 4] (fun v i wr => ∃ (k : Nat) (Av : Option Addr) (cv : Nat), i = .int .i64 (k : Int) ∧ k ≤ N ∧ v = .slice Av (enS lo hi js ms k).length cv ∧ Aside0 (EnAt w wr lo hi A c js A' c' ms k (.slice Av (enS lo hi js ms k).length cv))) (fun _ i _ => N - (intOf i).toNat)
  case atStart => exact ⟨0, none, 0, rfl, by omega, rfl, ⟨H0.out, Kd.R_nil _ _ _ _ _⟩⟩
  case round =>
    clear H0
    obtain ⟨k, Av, cv, rfl, hk, rfl, HL⟩ := hrel
    have s0 := cell_two HL.out.net.blk 0 rfl
    have s1 := cell_two HL.out.net.blk 1 rfl
    have s2 := cell_two HL.out.net.blk 2 rfl
    have s3 := cell_two HL.out.net.blk 3 rfl
    by_cases hlt : k < N
    · have hlt' : decide ((k : Int) < (N : Int)) = true := decide_eq_true (by omega)
      have k0 : (0 : Int) ≤ (k : Int) := Int.natCast_nonneg k
      have k1 : (k : Int) < (N : Int) := by omega
      have HWi : Aside0 (∀ W, EnAt w W lo hi A c js A' c' ms k (.slice Av (enS lo hi js ms k).length cv) → _) := ⟨fun W h => rWith_any (A := A) (c := c) HOK.out (s := k) (by omega) W h.net.mr hc'⟩
      obtain ⟨x1, x2, hft⟩ := faultT_en HOK.out k
      have HFT := Aside0.mk hft
      clear hft
      cases hen : isEn lo hi js ms k
      · have HFX : Aside0 (∀ (W : World) (B : Option Addr) (d : Nat), Kd.C k50 W A js.length js → Kd.C k54 W B (withN k 0 ms).length (withN k 0 ms) → (withN k 0 ms).length ≤ d → Calls Try.prog 17 #[.agg #[.int .i64 lo, .int .i64 hi, .slice A js.length c, .slice B (withN k 0 ms).length d]] W fun e w' => e = .returned (.tuple #[.int .i64 x1, .bool x2, .int .i64 0]) ∧ Below W.heap.size W w') := ⟨fun W B d hj hm hd => by
          have h := rFault_any lo hi A c js B d (withN k 0 ms) W hj hc hm hd (by omega) (by rw [withN_len]; omega)
          rw [HFT.out, hen] at h
          exact h⟩
        have HEN := Aside0.mk hen
        clear hen HFT
        go_wp2_with (first
          | (go_at_call 38; (with_reducible refine (HPw.out _).mono ?_); rintro e W1 ⟨rfl, hb⟩; have H1 := Aside0.mk (HL.out.next hb); clear hb s0 s1 s2 s3; have s0 := cell_two H1.out.net.blk 0 rfl; have s1 := cell_two H1.out.net.blk 1 rfl; have s2 := cell_two H1.out.net.blk 2 rfl; have s3 := cell_two H1.out.net.blk 3 rfl)
          | (go_at_call 28; (with_reducible refine (HWi.out _ H1.out).mono ?_); rintro e W2 ⟨B2, d2, rfl, hC2, hd2, hb⟩; have H2 := Aside0.mk (H1.out.next hb); have HC2 := Aside0.mk (And.intro hC2 hd2); clear hb hC2 hd2 s0 s1 s2 s3)
          | (go_at_call 17; (with_reducible refine (HFX.out _ B2 d2 H2.out.net.jr HC2.out.1 HC2.out.2).mono ?_); rintro e W3 ⟨rfl, hb⟩; have H3 := Aside0.mk (H2.out.next hb); clear hb))
        go_roundw
        case rel => exact ⟨k + 1, Av, cv, by go_num, by omega, by rw [enS_succ, HEN.out]; simp, ⟨H3.out.net, by rw [enS_succ, HEN.out]; simpa using H3.out.own⟩⟩
        case measure => simp [intOf]; omega
      · have HFX : Aside0 (∀ (W : World) (B : Option Addr) (d : Nat), Kd.C k50 W A js.length js → Kd.C k54 W B (withN k 0 ms).length (withN k 0 ms) → (withN k 0 ms).length ≤ d → Calls Try.prog 17 #[.agg #[.int .i64 lo, .int .i64 hi, .slice A js.length c, .slice B (withN k 0 ms).length d]] W fun e w' => e = .returned (.tuple #[.int .i64 x1, .bool x2, .int .i64 4]) ∧ Below W.heap.size W w') := ⟨fun W B d hj hm hd => by
          have h := rFault_any lo hi A c js B d (withN k 0 ms) W hj hc hm hd (by omega) (by rw [withN_len]; omega)
          rw [HFT.out, hen] at h
          exact h⟩
        have HEN := Aside0.mk hen
        clear hen HFT
        have hln : ((enS lo hi js ms k).length + 1) * 8 ≤ 140737488355328 := by have := enS_len lo hi js ms k; omega
        go_upto_region 7 with (first
          | (go_at_call 38; (with_reducible refine (HPw.out _).mono ?_); rintro e W1 ⟨rfl, hb⟩; have H1 := Aside0.mk (HL.out.next hb); clear hb s0 s1 s2 s3; have s0 := cell_two H1.out.net.blk 0 rfl; have s1 := cell_two H1.out.net.blk 1 rfl; have s2 := cell_two H1.out.net.blk 2 rfl; have s3 := cell_two H1.out.net.blk 3 rfl)
          | (go_at_call 28; (with_reducible refine (HWi.out _ H1.out).mono ?_); rintro e W2 ⟨B2, d2, rfl, hC2, hd2, hb⟩; have H2 := Aside0.mk (H1.out.next hb); have HC2 := Aside0.mk (And.intro hC2 hd2); clear hb hC2 hd2 s0 s1 s2 s3)
          | (go_at_call 17; (with_reducible refine (HFX.out _ B2 d2 H2.out.net.jr HC2.out.1 HC2.out.2).mono ?_); rintro e W3 ⟨rfl, hb⟩; have H3 := Aside0.mk (H2.out.next hb); clear hb))
        have HFR : Aside0 (∀ b, W3.heap.size ≤ b → w.heap.size < b) := ⟨fun b h => by have := blk_lt H3.out.net.blk; omega⟩
        go_wp2_with ((with_reducible refine gate_builtin (b := .append) (xs := #[.tmp 26, .tmp 28]) rfl ?_); at_builtin; refine Kd.R_append (Kd.int .i64) (w0 := w) w.heap.size rfl (.tmp 26) (.tmp 28) 37 3 (.int .i64 0) 8 rfl Try.underlying37 info3 rfl (by decide) (by omega) (.slice Av (enS lo hi js ms k).length cv) (enS lo hi js ms k) (k : Int) [.int .i64 (k : Int)] (fun b => w.heap.size < b) (fun _ => False) rfl rfl rfl (fun _ hk => hk.elim) HFR.out H3.out.own H3.out.net.bel H3.out.net.bel.size hln ?_; intro v2 w2 ho hb hg hat; obtain ⟨A2, c2, rfl⟩ := Kd.R_slice ho; have HA2 : Aside0 (w2.heap[w.heap.size]? = some (.cells (netC lo hi A js.length c A' ms.length c') 27 (0, 0))) := ⟨blk_grown H3.out.net.blk hg (Kd.R_ne H3.out.own H3.out.net.blk (by decide))⟩; have HO2 := Aside0.mk ho; have HB2 := Aside0.mk hb; clear ho hb hg hat)
        go_roundw
        case rel => exact ⟨k + 1, A2, c2, by go_num, by omega, by rw [enS_succ, HEN.out]; simp, ⟨⟨HA2.out, Kd.C_below HBASE.out.1 HB2.out, Kd.C_below HBASE.out.2 HB2.out, HB2.out⟩, by rw [enS_succ, HEN.out]; simpa using HO2.out⟩⟩
        case measure => simp [intOf]; omega
    · have hlt' : decide ((k : Int) < (N : Int)) = false := decide_eq_false (by omega)
      have ek : k = N := by omega
      have h1 := HL.out
      rw [ek] at h1 ⊢
      have HF := Aside0.mk h1
      clear h1 HL ek
      go_wp2_with (go_at_call 38; (with_reducible refine (HPw.out _).mono ?_); rintro e W1 ⟨rfl, hb⟩; have H1 := Aside0.mk (HF.out.next hb); clear hb s0 s1 s2 s3)
      go_ret
      exact ⟨_, rfl, Kd.R_mono H1.out.own (fun _ _ => trivial), H1.out.net.bel⟩
end Go.Proofs.Ytbjinkkmakhbaaa.Print
