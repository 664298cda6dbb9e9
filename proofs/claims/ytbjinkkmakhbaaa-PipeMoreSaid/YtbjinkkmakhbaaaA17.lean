/- The least and the greatest pressure at a junction (at). -/
import Derived.Test.YtbjinkkmakhbaaaA15
import Derived.Test.YtbjinkkmakhbaaaMB
namespace Go.Proofs.Ytbjinkkmakhbaaa.Print
open Go.RowKit Go.Shelf Go.Proofs.YtbjinkkmakhbaaaW.PrintWords Go.Proofs.YtbjinkkmakhbaaaW.PrintLast Go.Proofs.YtbjinkkmakhbaaaW.PrintMore
set_option linter.unusedVariables false
set_option linter.unusedSimpArgs false
attribute [local go_sem] Oper.semAt_some
theorem ix0 (w : World) : (Instr.index 102 (.agg #[.func (.func 72) #[] #[], .bool true, .func (.func 71) #[] #[], .bool false, .func (.func 71) #[] #[], .bool false, .func (.func 72) #[] #[], .bool true]) (.int .i64 0)).run Try.prog w = .ok (.agg #[.func (.func 72) #[] #[], .bool true, .func (.func 71) #[] #[], .bool false]) w := by kernel_rfl
set_option maxHeartbeats 4000000 in
set_option maxRecDepth 100000 in
theorem at0_any (P : Nat) (lo hi : Int) (A : Option Addr) (c : Nat) (js : List S50) (A' : Option Addr) (c' : Nat) (ms : List S54) (vs : List Value) (hok : NetOk lo hi js ms) (j : Nat) (hj : j ≤ ms.length) (w : World) (hN : NetR w P lo hi A c js A' c' ms vs) :
    Calls Try.prog 40 #[.pointer (some ⟨P, 0, none⟩), .int .i64 (j : Int), .int .i64 0] w fun e w' => e = .returned (.int .i64 (pressP js ms true (fedA ms true j) lo j)) ∧ Below w.heap.size w w' := by
  have HN := Aside0.mk hN
  have HOK := Aside0.mk hok
  have h8 : ms.length ≤ 8 := by have := hok.ml; have := hok.jl; omega
  have HL : Aside0 (∀ i, i ≤ ms.length → (belowJ ms (fedA ms true j) i).length ≤ 9) := ⟨fun i hi => by have := belowJ_len js hok.mok true j i hi; omega⟩
  obtain ⟨f, hf⟩ : ∃ f, fedA ms true j = f := ⟨_, rfl⟩
  have HF : Aside0 (∀ W, NetR W P lo hi A c js A' c' ms vs → Calls Try.prog 58 #[.pointer (some ⟨P, 0, none⟩), .bool true, .int .i64 (j : Int)] W fun e w' => e = .returned (.agg (arrB f)) ∧ Below W.heap.size W w') := ⟨fun W h => by
    rw [← hf]
    exact fedIf_any A' c' ms P j true W (cell_two h.blk 3 (net_m _ _ _ _ _ _ _ _ _)) h.mr HOK.out.mok hj h8⟩
  rw [hf] at HL ⊢
  clear hf hN hok
  have ix := ix0
  go_enter Try.func40, Try.ntmps40
  go_wp2_with (first
    | (go_at_call 57; refine (ends_any _).mono ?_; rintro e W2 ⟨rfl, hb⟩; have HB2 : Aside0 (Below w.heap.size w W2) := ⟨(below_alloc (Below.refl _ w) _).trans (hb.mono (by simp))⟩; have HX2 : Aside0 (W2.heap[w.heap.size]? = some (.cells #[.pointer (some ⟨P, 0, none⟩)] 69 (0, 0))) := ⟨blk_below (blk_new w _) hb⟩; clear hb; have cx2 : (W2.alloc (.cells #[.func (.func 72) #[] #[], .bool true, .func (.func 71) #[] #[], .bool false] 101)).cell? ⟨w.heap.size, 0, none⟩ = some (.pointer (some ⟨P, 0, none⟩)) := cell_two (blk_alloc HX2.out _) 0 rfl; simp only [fn71, fn72])
    | (go_at_call 58; refine (HF.out _ (HN.out.next (below_alloc HB2.out _))).mono ?_; rintro e W3 ⟨rfl, hb⟩; have HB3 : Aside0 (Below w.heap.size w W3) := ⟨(HB2.out.trans ((below_alloc (Below.refl _ W2) (.cells #[.func (.func 72) #[] #[], .bool true, .func (.func 71) #[] #[], .bool false] 101)).mono HB2.out.size)).trans (hb.mono (by have := HB2.out.size; simp; omega))⟩; have HE3 : Aside0 (W3.heap[W2.heap.size]? = some (.cells #[.func (.func 72) #[] #[], .bool true, .func (.func 71) #[] #[], .bool false] 101 (0, 0)) ∧ W3.heap[w.heap.size]? = some (.cells #[.pointer (some ⟨P, 0, none⟩)] 69 (0, 0)) ∧ NetR W3 P lo hi A c js A' c' ms vs) := ⟨blk_below (blk_new W2 _) hb, blk_below (blk_alloc HX2.out _) hb, (HN.out.next HB3.out)⟩; clear hb cx2; have hfa : (W3.alloc (.cells #[.bool (f 0), .bool (f 1), .bool (f 2), .bool (f 3), .bool (f 4), .bool (f 5), .bool (f 6), .bool (f 7), .bool (f 8)] 105)).heap[W3.heap.size]? = some (.cells (arrB f) 105 (0, 0)) := blk_new W3 _; have hfn := blk_new (W3.alloc (.cells #[.bool (f 0), .bool (f 1), .bool (f 2), .bool (f 3), .bool (f 4), .bool (f 5), .bool (f 6), .bool (f 7), .bool (f 8)] 105)) (.cells #[.func (.func 59) #[] #[.pointer (some ⟨W2.heap.size, 0, none⟩), .pointer (some ⟨w.heap.size, 0, none⟩), .pointer (some ⟨W3.heap.size, 0, none⟩), .pointer (some ⟨W3.heap.size + 1, 0, none⟩)]] 71); rw [World.size_alloc] at hfn; have HENV : Aside0 (PEnv ((W3.alloc (.cells #[.bool (f 0), .bool (f 1), .bool (f 2), .bool (f 3), .bool (f 4), .bool (f 5), .bool (f 6), .bool (f 7), .bool (f 8)] 105)).alloc (.cells #[.func (.func 59) #[] #[.pointer (some ⟨W2.heap.size, 0, none⟩), .pointer (some ⟨w.heap.size, 0, none⟩), .pointer (some ⟨W3.heap.size, 0, none⟩), .pointer (some ⟨W3.heap.size + 1, 0, none⟩)]] 71)) true f W2.heap.size w.heap.size W3.heap.size (W3.heap.size + 1) P lo hi A c js A' c' ms vs) := ⟨⟨cell_two (blk_alloc (blk_alloc HE3.out.1 _) _) 0 rfl, cell_two (blk_alloc (blk_alloc HE3.out.1 _) _) 2 rfl, cell_two (blk_alloc (blk_alloc HE3.out.2.1 _) _) 0 rfl, blk_alloc hfa _, cell_two hfn 0 rfl, HE3.out.2.2.next (below_alloc (below_alloc (Below.refl _ W3) _) _)⟩⟩; clear hfa hfn; simp only [arrB])
    | (go_at_call 59; refine (press_in true f W2.heap.size w.heap.size W3.heap.size (W3.heap.size + 1) P lo hi A c js A' c' ms vs HOK.out HL.out j hj _ HENV.out).mono ?_; rintro e W4 ⟨rfl, hb⟩; have HB4 := Aside0.mk (HB3.out.trans (((below_alloc (below_alloc (Below.refl W3.heap.size W3) (.cells #[.bool (f 0), .bool (f 1), .bool (f 2), .bool (f 3), .bool (f 4), .bool (f 5), .bool (f 6), .bool (f 7), .bool (f 8)] 105)) (.cells #[.func (.func 59) #[] #[.pointer (some ⟨W2.heap.size, 0, none⟩), .pointer (some ⟨w.heap.size, 0, none⟩), .pointer (some ⟨W3.heap.size, 0, none⟩), .pointer (some ⟨W3.heap.size + 1, 0, none⟩)]] 71)).trans (hb.mono (by simp; omega))).mono HB3.out.size)); clear hb))
  go_ret
  exact ⟨rfl, HB4.out⟩
theorem ix1 (w : World) : (Instr.index 102 (.agg #[.func (.func 72) #[] #[], .bool true, .func (.func 71) #[] #[], .bool false, .func (.func 71) #[] #[], .bool false, .func (.func 72) #[] #[], .bool true]) (.int .i64 1)).run Try.prog w = .ok (.agg #[.func (.func 71) #[] #[], .bool false, .func (.func 72) #[] #[], .bool true]) w := by kernel_rfl
set_option maxHeartbeats 4000000 in
set_option maxRecDepth 100000 in
theorem at1_any (P : Nat) (lo hi : Int) (A : Option Addr) (c : Nat) (js : List S50) (A' : Option Addr) (c' : Nat) (ms : List S54) (vs : List Value) (hok : NetOk lo hi js ms) (j : Nat) (hj : j ≤ ms.length) (w : World) (hN : NetR w P lo hi A c js A' c' ms vs) :
    Calls Try.prog 40 #[.pointer (some ⟨P, 0, none⟩), .int .i64 (j : Int), .int .i64 1] w fun e w' => e = .returned (.int .i64 (pressP js ms false (fedA ms false j) hi j)) ∧ Below w.heap.size w w' := by
  have HN := Aside0.mk hN
  have HOK := Aside0.mk hok
  have h8 : ms.length ≤ 8 := by have := hok.ml; have := hok.jl; omega
  have HL : Aside0 (∀ i, i ≤ ms.length → (belowJ ms (fedA ms false j) i).length ≤ 9) := ⟨fun i hi => by have := belowJ_len js hok.mok false j i hi; omega⟩
  obtain ⟨f, hf⟩ : ∃ f, fedA ms false j = f := ⟨_, rfl⟩
  have HF : Aside0 (∀ W, NetR W P lo hi A c js A' c' ms vs → Calls Try.prog 58 #[.pointer (some ⟨P, 0, none⟩), .bool false, .int .i64 (j : Int)] W fun e w' => e = .returned (.agg (arrB f)) ∧ Below W.heap.size W w') := ⟨fun W h => by
    rw [← hf]
    exact fedIf_any A' c' ms P j false W (cell_two h.blk 3 (net_m _ _ _ _ _ _ _ _ _)) h.mr HOK.out.mok hj h8⟩
  rw [hf] at HL ⊢
  clear hf hN hok
  have ix := ix1
  go_enter Try.func40, Try.ntmps40
  go_wp2_with (first
    | (go_at_call 57; refine (ends_any _).mono ?_; rintro e W2 ⟨rfl, hb⟩; have HB2 : Aside0 (Below w.heap.size w W2) := ⟨(below_alloc (Below.refl _ w) _).trans (hb.mono (by simp))⟩; have HX2 : Aside0 (W2.heap[w.heap.size]? = some (.cells #[.pointer (some ⟨P, 0, none⟩)] 69 (0, 0))) := ⟨blk_below (blk_new w _) hb⟩; clear hb; have cx2 : (W2.alloc (.cells #[.func (.func 71) #[] #[], .bool false, .func (.func 72) #[] #[], .bool true] 101)).cell? ⟨w.heap.size, 0, none⟩ = some (.pointer (some ⟨P, 0, none⟩)) := cell_two (blk_alloc HX2.out _) 0 rfl; simp only [fn71, fn72])
    | (go_at_call 58; refine (HF.out _ (HN.out.next (below_alloc HB2.out _))).mono ?_; rintro e W3 ⟨rfl, hb⟩; have HB3 : Aside0 (Below w.heap.size w W3) := ⟨(HB2.out.trans ((below_alloc (Below.refl _ W2) (.cells #[.func (.func 71) #[] #[], .bool false, .func (.func 72) #[] #[], .bool true] 101)).mono HB2.out.size)).trans (hb.mono (by have := HB2.out.size; simp; omega))⟩; have HE3 : Aside0 (W3.heap[W2.heap.size]? = some (.cells #[.func (.func 71) #[] #[], .bool false, .func (.func 72) #[] #[], .bool true] 101 (0, 0)) ∧ W3.heap[w.heap.size]? = some (.cells #[.pointer (some ⟨P, 0, none⟩)] 69 (0, 0)) ∧ NetR W3 P lo hi A c js A' c' ms vs) := ⟨blk_below (blk_new W2 _) hb, blk_below (blk_alloc HX2.out _) hb, (HN.out.next HB3.out)⟩; clear hb cx2; have hfa : (W3.alloc (.cells #[.bool (f 0), .bool (f 1), .bool (f 2), .bool (f 3), .bool (f 4), .bool (f 5), .bool (f 6), .bool (f 7), .bool (f 8)] 105)).heap[W3.heap.size]? = some (.cells (arrB f) 105 (0, 0)) := blk_new W3 _; have hfn := blk_new (W3.alloc (.cells #[.bool (f 0), .bool (f 1), .bool (f 2), .bool (f 3), .bool (f 4), .bool (f 5), .bool (f 6), .bool (f 7), .bool (f 8)] 105)) (.cells #[.func (.func 59) #[] #[.pointer (some ⟨W2.heap.size, 0, none⟩), .pointer (some ⟨w.heap.size, 0, none⟩), .pointer (some ⟨W3.heap.size, 0, none⟩), .pointer (some ⟨W3.heap.size + 1, 0, none⟩)]] 71); rw [World.size_alloc] at hfn; have HENV : Aside0 (PEnv ((W3.alloc (.cells #[.bool (f 0), .bool (f 1), .bool (f 2), .bool (f 3), .bool (f 4), .bool (f 5), .bool (f 6), .bool (f 7), .bool (f 8)] 105)).alloc (.cells #[.func (.func 59) #[] #[.pointer (some ⟨W2.heap.size, 0, none⟩), .pointer (some ⟨w.heap.size, 0, none⟩), .pointer (some ⟨W3.heap.size, 0, none⟩), .pointer (some ⟨W3.heap.size + 1, 0, none⟩)]] 71)) false f W2.heap.size w.heap.size W3.heap.size (W3.heap.size + 1) P lo hi A c js A' c' ms vs) := ⟨⟨cell_two (blk_alloc (blk_alloc HE3.out.1 _) _) 0 rfl, cell_two (blk_alloc (blk_alloc HE3.out.1 _) _) 2 rfl, cell_two (blk_alloc (blk_alloc HE3.out.2.1 _) _) 0 rfl, blk_alloc hfa _, cell_two hfn 0 rfl, HE3.out.2.2.next (below_alloc (below_alloc (Below.refl _ W3) _) _)⟩⟩; clear hfa hfn; simp only [arrB])
    | (go_at_call 59; refine (press_in false f W2.heap.size w.heap.size W3.heap.size (W3.heap.size + 1) P lo hi A c js A' c' ms vs HOK.out HL.out j hj _ HENV.out).mono ?_; rintro e W4 ⟨rfl, hb⟩; have HB4 := Aside0.mk (HB3.out.trans (((below_alloc (below_alloc (Below.refl W3.heap.size W3) (.cells #[.bool (f 0), .bool (f 1), .bool (f 2), .bool (f 3), .bool (f 4), .bool (f 5), .bool (f 6), .bool (f 7), .bool (f 8)] 105)) (.cells #[.func (.func 59) #[] #[.pointer (some ⟨W2.heap.size, 0, none⟩), .pointer (some ⟨w.heap.size, 0, none⟩), .pointer (some ⟨W3.heap.size, 0, none⟩), .pointer (some ⟨W3.heap.size + 1, 0, none⟩)]] 71)).trans (hb.mono (by simp; omega))).mono HB3.out.size)); clear hb))
  go_ret
  exact ⟨rfl, HB4.out⟩
end Go.Proofs.Ytbjinkkmakhbaaa.Print

namespace Go.Proofs.Ytbjinkkmakhbaaa.Print
open Go.RowKit Go.Shelf Go.Proofs.YtbjinkkmakhbaaaW.PrintWords Go.Proofs.YtbjinkkmakhbaaaW.PrintLast Go.Proofs.YtbjinkkmakhbaaaW.PrintMore
set_option linter.unusedVariables false
set_option linter.unusedSimpArgs false
attribute [local go_sem] Oper.semAt_some
/-- The pressures that there can be at a junction, as the code reckons them. -/
def loP (js : List S50) (ms : List S54) (lo : Int) (j : Nat) : Int := pressP js ms true (fedA ms true j) lo j
def hiP (js : List S50) (ms : List S54) (hi : Int) (j : Nat) : Int := pressP js ms false (fedA ms false j) hi j
def pressS (lo hi : Int) (js : List S50) (ms : List S54) (j : Int) : Int × Int × Int :=
  if netB lo hi js ms = true then (if withinB j 0 ((js.length : Int) - 1) = true then (if statusP ms j.toNat = 0 then (0, 0, 4) else (loP js ms lo j.toNat, hiP js ms hi j.toNat, 0)) else (0, 0, 2)) else (0, 0, 1)
theorem results_press {a b e : Int} {W : World} {g : Nat} {tmps : Array Value} (h : W.heap[g]? = some (.cells #[.int .i64 a, .int .i64 b] 23 (0, 0))) (h4 : tmps[4]? = some (.pointer (some ⟨g, 0, none⟩))) (h5 : tmps[5]? = some (.int .i64 e)) : (results Try.f14 tmps).run Try.prog W = .ok (.tuple #[.agg #[.int .i64 a, .int .i64 b], .int .i64 e]) W := by
  have g0 := cell_two h 0 rfl
  have g1 := cell_two h 1 rfl
  simp [results, Try.f14, go_sem, h4, h5, g0, g1]
set_option maxHeartbeats 4000000 in
set_option maxRecDepth 100000 in
theorem Press_any (lo hi : Int) (A : Option Addr) (c : Nat) (js : List S50) (A' : Option Addr) (c' : Nat) (ms : List S54) (j : Int) (w : World) (hr : Kd.C k50 w A js.length js) (hc : js.length ≤ c) (hr' : Kd.C k54 w A' ms.length ms) (hc' : ms.length ≤ c') :
    Calls Try.prog 14 #[.agg #[.int .i64 lo, .int .i64 hi, .slice A js.length c, .slice A' ms.length c'], .int .i64 j] w fun e w' => e = .returned (.tuple #[.agg #[.int .i64 (pressS lo hi js ms j).1, .int .i64 (pressS lo hi js ms j).2.1], .int .i64 (pressS lo hi js ms j).2.2]) ∧ Below w.heap.size w w' := by
  have hm := Kd.C_max hr
  have H0 : Aside0 (NetAt w ((w.alloc (.cells (netC lo hi A js.length c A' ms.length c') 27)).alloc (.cells #[.int .i64 0, .int .i64 0] 23)) w.heap.size lo hi A c js A' c' ms) := ⟨⟨blk_alloc (blk_new w _) _, Kd.C_alloc (Kd.C_alloc hr _) _, Kd.C_alloc (Kd.C_alloc hr' _) _, below_alloc (below_alloc (Below.refl _ _) _) _⟩⟩
  have hq0 := blk_new (w.alloc (.cells (netC lo hi A js.length c A' ms.length c') 27)) (.cells #[.int .i64 0, .int .i64 0] 23)
  rw [World.size_alloc] at hq0
  have Q0 := Aside0.mk hq0
  clear hq0
  have s0 := cell_two H0.out.blk 0 rfl
  have s1 := cell_two H0.out.blk 1 rfl
  have s2 := cell_two H0.out.blk 2 rfl
  have s3 := cell_two H0.out.blk 3 rfl
  have HNet : Aside0 (∀ W, NetAt w W w.heap.size lo hi A c js A' c' ms → Calls Try.prog 33 #[.agg #[.int .i64 lo, .int .i64 hi, .slice A js.length c, .slice A' ms.length c']] W fun e w' => e = .returned (.bool (netB lo hi js ms)) ∧ Below W.heap.size W w') := ⟨fun W h => network_any lo hi A c js A' c' ms W h.jr hc h.mr hc'⟩
  have hw : wrap64 ((js.length : Int) - 1) = (js.length : Int) - 1 := by unfold wrap64; omega
  clear hr hr'
  unfold pressS
  by_cases hn : netB lo hi js ms = true
  · rw [if_pos hn]
    have hok := net_ok hn
    rw [hn] at HNet
    by_cases hj : withinB j 0 ((js.length : Int) - 1) = true
    · rw [if_pos hj]
      have hj2 := hj
      simp only [withinB, Bool.and_eq_true, decide_eq_true_eq] at hj2
      obtain ⟨k, rfl⟩ := Int.eq_ofNat_of_zero_le hj2.1
      have hml := hok.ml
      have hjl := hok.jl
      have hkm : k ≤ ms.length := by omega
      have HWi : Aside0 (∀ W, Calls Try.prog 34 #[.int .i64 (k : Int), .int .i64 0, .int .i64 ((js.length : Int) - 1)] W fun e w' => e = .returned (.bool true) ∧ w' = W) := ⟨fun W => by rw [← hj]; exact within_any _ _ _ W⟩
      have HNew : Aside0 (∀ W, NetAt w W w.heap.size lo hi A c js A' c' ms → Calls Try.prog 35 #[.agg #[.int .i64 lo, .int .i64 hi, .slice A js.length c, .slice A' ms.length c']] W fun e w' => ∃ vs, e = .returned (.pointer (some ⟨W.heap.size + 1, 0, none⟩)) ∧ Made W w' (W.heap.size + 1) lo hi A c js A' c' ms vs (kidsN ms)) := ⟨fun W h => newNet_any lo hi A c js A' c' ms W h.jr hc h.mr hc' hok⟩
      have HStat : Aside0 (∀ W P, W.cell? ⟨P, 3, none⟩ = some (.slice A' ms.length c') → Kd.C k54 W A' ms.length ms → Calls Try.prog 36 #[.pointer (some ⟨P, 0, none⟩), .int .i64 (k : Int)] W fun e w' => e = .returned (.int .i64 (statusP ms k)) ∧ Below W.heap.size W w') := ⟨fun W P h1 h2 => status_any A' c' ms P k W h1 h2 hok.mok hkm (by omega)⟩
      have HLo : Aside0 (∀ W P vs, NetR W P lo hi A c js A' c' ms vs → Calls Try.prog 40 #[.pointer (some ⟨P, 0, none⟩), .int .i64 (k : Int), .int .i64 0] W fun e w' => e = .returned (.int .i64 (loP js ms lo k)) ∧ Below W.heap.size W w') := ⟨fun W P vs h => at0_any P lo hi A c js A' c' ms vs hok k hkm W h⟩
      have HHi : Aside0 (∀ W P vs, NetR W P lo hi A c js A' c' ms vs → Calls Try.prog 40 #[.pointer (some ⟨P, 0, none⟩), .int .i64 (k : Int), .int .i64 1] W fun e w' => e = .returned (.int .i64 (hiP js ms hi k)) ∧ Below W.heap.size W w') := ⟨fun W P vs h => at1_any P lo hi A c js A' c' ms vs hok k hkm W h⟩
      rw [Int.toNat_natCast]
      clear hn hj hj2 hok hml hjl hkm
      generalize loP js ms lo k = pl at HLo ⊢
      generalize hiP js ms hi k = ph at HHi ⊢
      generalize statusP ms k = st at HStat ⊢
      by_cases hst : st = 0
      · rw [if_pos hst]
        have d0 : (st == 0) = true := by rw [hst]; rfl
        clear hst
        go_enter Try.func14, Try.ntmps14
        go_wp2_with (first
          | (go_at_call 33; with_reducible refine (HNet.out _ H0.out).mono ?_; rintro e W1 ⟨rfl, hb⟩; have H1 := Aside0.mk (H0.out.next hb); have Q1 := Aside0.mk (blk_below Q0.out hb); clear hb s0 s1 s2 s3; have s0 := cell_two H1.out.blk 0 rfl; have s1 := cell_two H1.out.blk 1 rfl; have s2 := cell_two H1.out.blk 2 rfl; have s3 := cell_two H1.out.blk 3 rfl; have q0 := cell_two Q1.out 0 rfl; have q1 := cell_two Q1.out 1 rfl; have f0 := blk_frozen Q1.out 0; have f1 := blk_frozen Q1.out 1)
          | (go_at_call 34; with_reducible refine (HWi.out _).mono ?_; rintro e w' ⟨rfl, rfl⟩)
          | (go_at_call 35; with_reducible refine (HNew.out _ H1.out).mono ?_; rintro e W2 ⟨vs, rfl, hM⟩; have HM := Aside0.mk hM; have Q2 := Aside0.mk (blk_below Q1.out hM.bel); clear hM q0 q1 f0 f1)
          | (go_at_call 36; refine (HStat.out _ _ (cell_two HM.out.blk 3 (net_m _ _ _ _ _ _ _ _ _)) HM.out.mr).mono ?_; rintro e W3 ⟨rfl, hb⟩; have HB3 := Aside0.mk (bl_next' (bl_next' H1.out.bel HM.out.bel) hb); have HN3 := Aside0.mk (HM.out.reads.next hb); have Q3 := Aside0.mk (blk_below Q2.out hb); have q0 := cell_two Q3.out 0 rfl; have q1 := cell_two Q3.out 1 rfl; have f0 := blk_frozen Q3.out 0; have f1 := blk_frozen Q3.out 1; clear hb))
        refine bodyPost_ret (v := .tuple #[.agg #[.int .i64 (0), .int .i64 (0)], .int .i64 4]) (results_press (blk_put (blk_put Q3.out 0 (.int .i64 (0)) rfl) 1 (.int .i64 (0)) rfl) rfl rfl) rfl ⟨rfl, (HB3.out.setCell (by simp) _).setCell (by simp) _⟩
      · rw [if_neg hst]
        have d0 : (st == 0) = false := beq_eq_false_iff_ne.2 hst
        clear hst
        go_enter Try.func14, Try.ntmps14
        go_wp2_with (first
          | (go_at_call 33; with_reducible refine (HNet.out _ H0.out).mono ?_; rintro e W1 ⟨rfl, hb⟩; have H1 := Aside0.mk (H0.out.next hb); have Q1 := Aside0.mk (blk_below Q0.out hb); clear hb s0 s1 s2 s3; have s0 := cell_two H1.out.blk 0 rfl; have s1 := cell_two H1.out.blk 1 rfl; have s2 := cell_two H1.out.blk 2 rfl; have s3 := cell_two H1.out.blk 3 rfl; have q0 := cell_two Q1.out 0 rfl; have q1 := cell_two Q1.out 1 rfl; have f0 := blk_frozen Q1.out 0; have f1 := blk_frozen Q1.out 1)
          | (go_at_call 34; with_reducible refine (HWi.out _).mono ?_; rintro e w' ⟨rfl, rfl⟩)
          | (go_at_call 35; with_reducible refine (HNew.out _ H1.out).mono ?_; rintro e W2 ⟨vs, rfl, hM⟩; have HM := Aside0.mk hM; have Q2 := Aside0.mk (blk_below Q1.out hM.bel); clear hM q0 q1 f0 f1)
          | (go_at_call 36; refine (HStat.out _ _ (cell_two HM.out.blk 3 (net_m _ _ _ _ _ _ _ _ _)) HM.out.mr).mono ?_; rintro e W3 ⟨rfl, hb⟩; have HB3 := Aside0.mk (bl_next' (bl_next' H1.out.bel HM.out.bel) hb); have HN3 := Aside0.mk (HM.out.reads.next hb); have Q3 := Aside0.mk (blk_below Q2.out hb); have q0 := cell_two Q3.out 0 rfl; have q1 := cell_two Q3.out 1 rfl; have f0 := blk_frozen Q3.out 0; have f1 := blk_frozen Q3.out 1; clear hb)
          | (go_at_call 40; with_reducible refine (HHi.out _ _ _ HN4.out).mono ?_; rintro e W5 ⟨rfl, hb⟩; have HB5 := Aside0.mk (bl_next' HB4.out hb); have Q5 := Aside0.mk (blk_below Q4.out hb); have q0 := cell_two Q5.out 0 rfl; have q1 := cell_two Q5.out 1 rfl; have f0 := blk_frozen Q5.out 0; have f1 := blk_frozen Q5.out 1; clear hb)
          | (go_at_call 40; with_reducible refine (HLo.out _ _ _ HN3.out).mono ?_; rintro e W4 ⟨rfl, hb⟩; have HB4 := Aside0.mk (bl_next' HB3.out hb); have HN4 := Aside0.mk (HN3.out.next hb); have Q4 := Aside0.mk (blk_below Q3.out hb); clear hb q0 q1 f0 f1))
        refine bodyPost_ret (v := .tuple #[.agg #[.int .i64 (pl), .int .i64 (ph)], .int .i64 0]) (results_press (blk_put (blk_put Q5.out 0 (.int .i64 (pl)) rfl) 1 (.int .i64 (ph)) rfl) rfl rfl) rfl ⟨rfl, (HB5.out.setCell (by simp) _).setCell (by simp) _⟩
    · have hj' : withinB j 0 ((js.length : Int) - 1) = false := by simpa using hj
      rw [if_neg hj]
      have HWi : Aside0 (∀ W, Calls Try.prog 34 #[.int .i64 j, .int .i64 0, .int .i64 ((js.length : Int) - 1)] W fun e w' => e = .returned (.bool false) ∧ w' = W) := ⟨fun W => by rw [← hj']; exact within_any _ _ _ W⟩
      clear hn hj hj' hok
      go_enter Try.func14, Try.ntmps14
      go_wp2_with (first
        | (go_at_call 33; with_reducible refine (HNet.out _ H0.out).mono ?_; rintro e W1 ⟨rfl, hb⟩; have H1 := Aside0.mk (H0.out.next hb); have Q1 := Aside0.mk (blk_below Q0.out hb); clear hb s0 s1 s2 s3; have s0 := cell_two H1.out.blk 0 rfl; have s1 := cell_two H1.out.blk 1 rfl; have s2 := cell_two H1.out.blk 2 rfl; have s3 := cell_two H1.out.blk 3 rfl; have q0 := cell_two Q1.out 0 rfl; have q1 := cell_two Q1.out 1 rfl; have f0 := blk_frozen Q1.out 0; have f1 := blk_frozen Q1.out 1)
        | (go_at_call 34; with_reducible refine (HWi.out _).mono ?_; rintro e w' ⟨rfl, rfl⟩))
      refine bodyPost_ret (v := .tuple #[.agg #[.int .i64 (0), .int .i64 (0)], .int .i64 2]) (results_press (blk_put (blk_put Q1.out 0 (.int .i64 (0)) rfl) 1 (.int .i64 (0)) rfl) rfl rfl) rfl ⟨rfl, (H1.out.bel.setCell (by simp) _).setCell (by simp) _⟩
  · have hn' : netB lo hi js ms = false := by simpa using hn
    rw [if_neg hn]
    rw [hn'] at HNet
    clear hn hn'
    go_enter Try.func14, Try.ntmps14
    go_wp2_with (first
      | (go_at_call 33; with_reducible refine (HNet.out _ H0.out).mono ?_; rintro e W1 ⟨rfl, hb⟩; have H1 := Aside0.mk (H0.out.next hb); have Q1 := Aside0.mk (blk_below Q0.out hb); clear hb s0 s1 s2 s3; have s0 := cell_two H1.out.blk 0 rfl; have s1 := cell_two H1.out.blk 1 rfl; have s2 := cell_two H1.out.blk 2 rfl; have s3 := cell_two H1.out.blk 3 rfl; have q0 := cell_two Q1.out 0 rfl; have q1 := cell_two Q1.out 1 rfl; have f0 := blk_frozen Q1.out 0; have f1 := blk_frozen Q1.out 1))
    refine bodyPost_ret (v := .tuple #[.agg #[.int .i64 (0), .int .i64 (0)], .int .i64 1]) (results_press (blk_put (blk_put Q1.out 0 (.int .i64 (0)) rfl) 1 (.int .i64 (0)) rfl) rfl rfl) rfl ⟨rfl, (H1.out.bel.setCell (by simp) _).setCell (by simp) _⟩
end Go.Proofs.Ytbjinkkmakhbaaa.Print
