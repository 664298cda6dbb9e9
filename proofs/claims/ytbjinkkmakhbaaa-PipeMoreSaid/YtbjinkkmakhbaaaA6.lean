/- Fed, whole. -/
import Derived.Test.YtbjinkkmakhbaaaA5
namespace Go.Proofs.Ytbjinkkmakhbaaa.Print
open Go.RowKit Go.Shelf Go.Proofs.YtbjinkkmakhbaaaW.PrintWords Go.Proofs.YtbjinkkmakhbaaaW.PrintLast Go.Proofs.YtbjinkkmakhbaaaW.PrintMore
set_option linter.unusedVariables false
set_option linter.unusedSimpArgs false
attribute [local go_sem] Oper.semAt_some
def fedS (lo hi : Int) (js : List S50) (ms : List S54) (j : Int) : Int × Int :=
  if netB lo hi js ms = true then (if withinB j 0 ((js.length : Int) - 1) = true then (statusP ms j.toNat, 0) else (0, 2)) else (0, 1)
theorem net_m (lo hi : Int) (A : Option Addr) (n c : Nat) (A' : Option Addr) (n' c' : Nat) (vs : List Value) : (netC lo hi A n c A' n' c' ++ vs.toArray)[3]? = some (.slice A' n' c') := by
  rw [Array.getElem?_append_left (by simp [netC])]
  rfl
set_option maxHeartbeats 2000000 in
set_option maxRecDepth 100000 in
theorem Fed_any (lo hi : Int) (A : Option Addr) (c : Nat) (js : List S50) (A' : Option Addr) (c' : Nat) (ms : List S54) (j : Int) (w : World) (hr : Kd.C k50 w A js.length js) (hc : js.length ≤ c) (hr' : Kd.C k54 w A' ms.length ms) (hc' : ms.length ≤ c') :
    Calls Try.prog 12 #[.agg #[.int .i64 lo, .int .i64 hi, .slice A js.length c, .slice A' ms.length c'], .int .i64 j] w fun e w' => e = .returned (.tuple #[.int .i64 (fedS lo hi js ms j).1, .int .i64 (fedS lo hi js ms j).2]) ∧ Below w.heap.size w w' := by
  have hm := Kd.C_max hr
  have H0 : Aside0 (NetAt w (w.alloc (.cells (netC lo hi A js.length c A' ms.length c') 27)) w.heap.size lo hi A c js A' c' ms) := ⟨⟨blk_new w _, Kd.C_alloc hr _, Kd.C_alloc hr' _, below_alloc (Below.refl _ _) _⟩⟩
  have s0 := cell_two H0.out.blk 0 rfl
  have s1 := cell_two H0.out.blk 1 rfl
  have s2 := cell_two H0.out.blk 2 rfl
  have s3 := cell_two H0.out.blk 3 rfl
  have HNet : Aside0 (∀ W, NetAt w W w.heap.size lo hi A c js A' c' ms → Calls Try.prog 33 #[.agg #[.int .i64 lo, .int .i64 hi, .slice A js.length c, .slice A' ms.length c']] W fun e w' => e = .returned (.bool (netB lo hi js ms)) ∧ Below W.heap.size W w') := ⟨fun W h => network_any lo hi A c js A' c' ms W h.jr hc h.mr hc'⟩
  have hw : wrap64 ((js.length : Int) - 1) = (js.length : Int) - 1 := by unfold wrap64; omega
  clear hr hr'
  unfold fedS
  by_cases hn : netB lo hi js ms = true
  · rw [if_pos hn]
    have hok := net_ok hn
    rw [hn] at HNet
    by_cases hj : withinB j 0 ((js.length : Int) - 1) = true
    · rw [if_pos hj]
      have hj2 := hj
      simp only [withinB, Bool.and_eq_true, decide_eq_true_eq] at hj2
      obtain ⟨k, rfl⟩ := Int.eq_ofNat_of_zero_le hj2.1
      have hml := hok.ml
      have hjl := hok.jl
      have hkm : k ≤ ms.length := by omega
      have HWi : Aside0 (∀ W, Calls Try.prog 34 #[.int .i64 (k : Int), .int .i64 0, .int .i64 ((js.length : Int) - 1)] W fun e w' => e = .returned (.bool true) ∧ w' = W) := ⟨fun W => by rw [← hj]; exact within_any _ _ _ W⟩
      have HNew : Aside0 (∀ W, NetAt w W w.heap.size lo hi A c js A' c' ms → Calls Try.prog 35 #[.agg #[.int .i64 lo, .int .i64 hi, .slice A js.length c, .slice A' ms.length c']] W fun e w' => ∃ vs, e = .returned (.pointer (some ⟨W.heap.size + 1, 0, none⟩)) ∧ Made W w' (W.heap.size + 1) lo hi A c js A' c' ms vs (kidsN ms)) := ⟨fun W h => newNet_any lo hi A c js A' c' ms W h.jr hc h.mr hc' hok⟩
      have HStat : Aside0 (∀ W P, W.cell? ⟨P, 3, none⟩ = some (.slice A' ms.length c') → Kd.C k54 W A' ms.length ms → Calls Try.prog 36 #[.pointer (some ⟨P, 0, none⟩), .int .i64 (k : Int)] W fun e w' => e = .returned (.int .i64 (statusP ms k)) ∧ Below W.heap.size W w') := ⟨fun W P h1 h2 => status_any A' c' ms P k W h1 h2 hok.mok hkm (by omega)⟩
      rw [Int.toNat_natCast]
      clear hn hj hj2 hok hml hjl hkm
      go_enter Try.func12, Try.ntmps12
      go_wp2_with (first
        | (go_at_call 33; with_reducible refine (HNet.out _ H0.out).mono ?_; rintro e W1 ⟨rfl, hb⟩; have H1 := Aside0.mk (H0.out.next hb); clear hb s0 s1 s2 s3; have s0 := cell_two H1.out.blk 0 rfl; have s1 := cell_two H1.out.blk 1 rfl; have s2 := cell_two H1.out.blk 2 rfl; have s3 := cell_two H1.out.blk 3 rfl)
        | (go_at_call 34; with_reducible refine (HWi.out _).mono ?_; rintro e w' ⟨rfl, rfl⟩)
        | (go_at_call 35; with_reducible refine (HNew.out _ H1.out).mono ?_; rintro e W2 ⟨vs, rfl, hM⟩; have HM := Aside0.mk hM; clear hM)
        | (go_at_call 36; refine (HStat.out _ _ (cell_two HM.out.blk 3 (net_m _ _ _ _ _ _ _ _ _)) HM.out.mr).mono ?_; rintro e W3 ⟨rfl, hb⟩; have HB3 := Aside0.mk (bl_next' (bl_next' H1.out.bel HM.out.bel) hb); clear hb))
      go_ret2
      exact ⟨rfl, HB3.out⟩
    · have hj' : withinB j 0 ((js.length : Int) - 1) = false := by simpa using hj
      rw [if_neg hj]
      have HWi : Aside0 (∀ W, Calls Try.prog 34 #[.int .i64 j, .int .i64 0, .int .i64 ((js.length : Int) - 1)] W fun e w' => e = .returned (.bool false) ∧ w' = W) := ⟨fun W => by rw [← hj']; exact within_any _ _ _ W⟩
      clear hn hj hj' hok
      go_enter Try.func12, Try.ntmps12
      go_wp2_with (first
        | (go_at_call 33; with_reducible refine (HNet.out _ H0.out).mono ?_; rintro e W1 ⟨rfl, hb⟩; have H1 := Aside0.mk (H0.out.next hb); clear hb s0 s1 s2 s3; have s0 := cell_two H1.out.blk 0 rfl; have s1 := cell_two H1.out.blk 1 rfl; have s2 := cell_two H1.out.blk 2 rfl; have s3 := cell_two H1.out.blk 3 rfl)
        | (go_at_call 34; with_reducible refine (HWi.out _).mono ?_; rintro e w' ⟨rfl, rfl⟩))
      go_ret2
      exact ⟨rfl, H1.out.bel⟩
  · have hn' : netB lo hi js ms = false := by simpa using hn
    rw [if_neg hn]
    rw [hn'] at HNet
    clear hn hn'
    go_enter Try.func12, Try.ntmps12
    go_wp2_with (go_at_call 33; with_reducible refine (HNet.out _ H0.out).mono ?_; rintro e W1 ⟨rfl, hb⟩; have H1 := Aside0.mk (H0.out.next hb); clear hb)
    go_ret2
    exact ⟨rfl, H1.out.bel⟩
end Go.Proofs.Ytbjinkkmakhbaaa.Print
