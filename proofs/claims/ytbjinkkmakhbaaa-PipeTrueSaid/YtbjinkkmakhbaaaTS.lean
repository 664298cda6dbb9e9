/- A truth, by remainders: the walk. -/
import Derived.Test.YtbjinkkmakhbaaaTR
namespace Go.Proofs.Ytbjinkkmakhbaaa.Print
open Go.RowKit Go.Shelf Go.Proofs.YtbjinkkmakhbaaaW.PrintWords Go.Proofs.YtbjinkkmakhbaaaW.PrintLast Go.Proofs.YtbjinkkmakhbaaaW.PrintMore
set_option linter.unusedVariables false
set_option linter.unusedSimpArgs false
attribute [local go_sem] Oper.semAt_some
/-- A call of a function value in a plain region, as an arm of go_wp2_with. -/
theorem goesF_ {P : Program} {ops : Array Oper} {Q : Exit → Act → World → Prop} {rest : List Oper} {oi : Oper} {a : Act} {w : World} (N : Option Tmp) (hd : oi.dst = N) (hg : oi.guard = none) {f : FuncId} {fn : Func} {p : Operand} {xs : Array Operand} {ts : Array TypeId} {caps : Array Value} (hf : P.funcs[f]? = some fn) (hname : (fn.name == "runtime.NumGoroutine") = false) (hb : fn.body.isSome = true) (args : Array Value)
    (hop : oi.op = .call { callee := .value p, args := xs, argTypes := ts }) (hfn : a.eval p = .func (.func f) #[] caps) (hargs : xs.map a.eval = args)
    (h : Calls P f (args ++ caps) w fun e w' => ∃ v, e = .returned v ∧ wpList P ops Q rest (a.put N v) w') : wpList P ops Q (oi :: rest) a w := by
  refine wpList_plain hg fun K hK => ?_
  have he := enters_ hf hname hb (args ++ caps) w
  have hrun : (execOp a.eval oi).run P w = .ok (.enter f (args ++ caps)) w := by
    unfold execOp
    simp [hop, resolve, Deferred.ofValue, invoke, hfn, hargs, he]
  unfold Oper.wp
  rw [hrun, Oper.upon_enter]
  refine h.mono fun e w'' hh => ?_
  obtain ⟨v, rfl, hk⟩ := hh
  subst hd
  exact hK _ _ hk
theorem mayTo_all {ms : List S54} {s : Nat} : ∀ (d i : Nat), (∀ t, i ≤ t → t < i + d → mayK ms s t = true) → mayTo ms s d i = true
  | 0, _, _ => rfl
  | d + 1, i, h => by
    rw [mayTo, h i (Nat.le_refl _) (by omega), Bool.true_and]
    exact mayTo_all d (i + 1) (fun t h1 h2 => h t (by omega) (by omega))
theorem bit_low {s k t : Nat} (ht : t < k) : (s + 2 ^ k).testBit t = s.testBit t := by
  rw [Nat.add_comm, Nat.testBit_two_pow_add_gt ht]
theorem bit_top {s k : Nat} (h : s < 2 ^ k) : (s + 2 ^ k).testBit k = true := by
  rw [Nat.add_comm, Nat.testBit_two_pow_add_eq, Nat.testBit_lt_two_pow h]
  rfl
theorem mayK_low {ms : List S54} {s k t : Nat} (ht : t < k) : mayK ms (s + 2 ^ k) t = mayK ms s t := by
  unfold mayK
  rw [bit_low ht]
/-- What is drawn, and the pressure of the works, lie within their spans; the valves may stand so. -/
structure TruthOk (lo hi : Int) (js : List S50) (ms : List S54) (s : Nat) (d : List Int) (src : Int) : Prop where
  sl : s < 2 ^ ms.length
  may : mayTo ms s ms.length 0 = true
  dl : d.length = js.length
  dr : ∀ j : Nat, j < js.length → (rd_T50 js j).f0.f0 ≤ rd d j ∧ rd d j ≤ (rd_T50 js j).f0.f1
  src : lo ≤ src ∧ src ≤ hi
structure TrAt (w W : World) (lo hi : Int) (A : Option Addr) (c : Nat) (js : List S50) (A' : Option Addr) (c' : Nat) (ms : List S54) (Ab : Option Addr) (cb : Nat) (lb : List Int) (z : Nat) : Prop where
  net : NetAt w W w.heap.size lo hi A c js A' c' ms
  dr : DrAt w W (w.heap.size + 2) (w.heap.size + 1) Ab cb lb (z : Int)
section
variable {w W W' : World} {lo hi : Int} {A : Option Addr} {c : Nat} {js : List S50} {A' : Option Addr} {c' : Nat} {ms : List S54} {Ab : Option Addr} {cb : Nat} {lb : List Int} {z : Nat}
theorem TrAt.next (h : TrAt w W lo hi A c js A' c' ms Ab cb lb z) (hb : Below W.heap.size W W') : TrAt w W' lo hi A c js A' c' ms Ab cb lb z := ⟨h.net.next hb, ⟨blk_below h.dr.bz hb, blk_below h.dr.bY hb, bl_next' h.dr.bel hb⟩⟩
theorem TrAt.after (h : TrAt w W lo hi A c js A' c' ms Ab cb lb z) (hr : Kd.C k50 w A js.length js) (hr' : Kd.C k54 w A' ms.length ms) {z' : Nat} (hd : DrAt w W' (w.heap.size + 2) (w.heap.size + 1) Ab cb lb (z' : Int)) (hb : ButOne (w.heap.size + 2) W W') : TrAt w W' lo hi A c js A' c' ms Ab cb lb z' :=
  ⟨⟨(hb.2 _ (blk_lt h.net.blk) (by omega)).trans h.net.blk, Kd.C_below hr hd.bel, Kd.C_below hr' hd.bel, hd.bel⟩, hd⟩
end
theorem add_w {s p : Nat} (h : s < p) (hp : p ≤ 256) : wrap64 ((s : Int) + (p : Int)) = ((s + p : Nat) : Int) := by rw [w64 (by omega) (by omega)]; omega
theorem mul_w {p : Nat} (hp : p ≤ 256) : wrap64 (2 * (p : Int)) = ((2 * p : Nat) : Int) := by rw [w64 (by omega) (by omega)]; omega
theorem truth_0 (ms : List S54) : ∃ p : Nat, p = 1 ∧ (p = 2 ^ 0 ∧ 0 < 2 ^ 0 ∧ ∀ t, t < 0 → mayK ms 0 t = true) := ⟨1, rfl, rfl, by decide, fun t h => absurd h (Nat.not_lt_zero t)⟩
theorem rd_snoc_lt {d : List Int} {x : Int} {i : Nat} (h : i < d.length) : rd (d ++ [x]) (i : Int) = rd d (i : Int) := by
  unfold rd
  rw [Int.toNat_natCast, List.getD_eq_getElem?_getD, List.getD_eq_getElem?_getD, List.getElem?_append_left h]
theorem rd_snoc_eq {d : List Int} {x : Int} : rd (d ++ [x]) (d.length : Int) = x := by
  unfold rd
  rw [Int.toNat_natCast, List.getD_eq_getElem?_getD, List.getElem?_append_right (Nat.le_refl _), Nat.sub_self]
  rfl
set_option maxHeartbeats 4000000 in
set_option maxRecDepth 100000 in
theorem truth_any {lo hi : Int} {A : Option Addr} {c : Nat} {js : List S50} {A' : Option Addr} {c' : Nat} {ms : List S54} (hok : NetOk lo hi js ms) {Ab : Option Addr} {cb : Nat} {lb : List Int} (w : World) (hr : Kd.C k50 w A js.length js) (hc : js.length ≤ c) (hr' : Kd.C k54 w A' ms.length ms) (hc' : ms.length ≤ c') (hb : Kd.C (Kd.int .u32) w Ab lb.length lb) (hcb : lb.length ≤ cb) (hne : 0 < lb.length) (hm : lb.length ≤ 9223372036854775807) (hg : ∀ x ∈ lb, 0 ≤ x ∧ x ≤ 4294967295) :
    Calls Try.prog 24 #[.agg #[.int .i64 lo, .int .i64 hi, .slice A js.length c, .slice A' ms.length c'], .slice Ab lb.length cb] w fun e w' => ∃ (s : Nat) (v : Value) (d : List Int) (src : Int), e = .returned (.tuple #[.int .i64 (s : Int), v, .int .i64 src]) ∧ Kd.R (Kd.int .i64) 3 w' w.heap.size (fun _ => True) v d ∧ TruthOk lo hi js ms s d src ∧ Below w.heap.size w w' := by
  have hl : ms.length ≤ 8 := by have := hok.ml; have := hok.jl; omega
  have hjl := hok.jl
  have HOK := Aside0.mk hok
  have HR := Aside0.mk hr
  have HR' := Aside0.mk hr'
  have H0 : Aside0 (TrAt w (((w.alloc (.cells (netC lo hi A js.length c A' ms.length c') 27)).alloc (.cells #[.slice Ab lb.length cb] 44)).alloc (.cells #[.int .i64 0] 3)) lo hi A c js A' c' ms Ab cb lb 0) := ⟨by
    have b0 : Below w.heap.size w (((w.alloc (.cells (netC lo hi A js.length c A' ms.length c') 27)).alloc (.cells #[.slice Ab lb.length cb] 44)).alloc (.cells #[.int .i64 0] 3)) := below_alloc (below_alloc (below_alloc (Below.refl _ _) _) _) _
    refine ⟨⟨blk_alloc (blk_alloc (blk_new w _) _) _, Kd.C_below hr b0, Kd.C_below hr' b0, b0⟩, ⟨?_, ?_, b0⟩⟩
    · have h := blk_new ((w.alloc (.cells (netC lo hi A js.length c A' ms.length c') 27)).alloc (.cells #[.slice Ab lb.length cb] 44)) (.cells #[.int .i64 0] 3)
      rw [World.size_alloc, World.size_alloc] at h
      exact h
    · have h := blk_new (w.alloc (.cells (netC lo hi A js.length c A' ms.length c') 27)) (.cells #[.slice Ab lb.length cb] 44)
      rw [World.size_alloc] at h
      exact blk_alloc h _⟩
  have HDr : Aside0 (∀ (z : Nat) (a b : Int) (W : World), z ≤ 1000000 → 0 ≤ a → a ≤ b → b ≤ 1099511627776 → TrAt w W lo hi A c js A' c' ms Ab cb lb z → Calls Try.prog 48 #[.agg #[.int .i64 a, .int .i64 b], .pointer (some ⟨w.heap.size + 2, 0, none⟩), .pointer (some ⟨w.heap.size + 1, 0, none⟩)] W fun e W' => ∃ x : Int, e = .returned (.int .i64 x) ∧ a ≤ x ∧ x ≤ b ∧ TrAt w W' lo hi A c js A' c' ms Ab cb lb (z + 1) ∧ ButOne (w.heap.size + 2) W W') := ⟨fun z a b W hz ha hab hb2 h => (draw_any w (w.heap.size + 2) (w.heap.size + 1) Ab cb lb hb hne hm hg (by omega) z hz a b ha hab hb2 W h.dr (by omega)).mono (by
    rintro e W' ⟨x, rfl, h1, h2, h3, h4⟩
    exact ⟨x, rfl, h1, h2, h.after HR.out HR'.out h3 h4, h4⟩)⟩
  clear hr hr' hb hg hne hok
  have HP0 := Aside0.mk (truth_0 ms)
  go_enter Try.func24, Try.ntmps24
  go_wp2_with (fail)
  go_loopw [7, 10, 11] (fun o b i wr => ∃ (k s p z : Nat), i = .int .i64 (k : Int) ∧ k ≤ ms.length ∧ o = .int .i64 (s : Int) ∧ b = .int .i64 (p : Int) ∧ z ≤ k ∧ Aside0 (p = 2 ^ k ∧ s < 2 ^ k ∧ ∀ t, t < k → mayK ms s t = true) ∧ Aside0 (TrAt w wr lo hi A c js A' c' ms Ab cb lb z)) (fun _ _ i _ => ms.length - (intOf i).toNat)
  case atStart =>
    obtain ⟨p0, hp0, hp1⟩ := HP0.out
    exact ⟨0, 0, p0, 0, rfl, by omega, rfl, by rw [hp0]; rfl, by omega, ⟨hp1⟩, H0⟩
  case round =>
    clear H0 HP0
    obtain ⟨k, s, p, z, rfl, hk, rfl, rfl, hzk, HP, HL⟩ := hrel
    have s0 := cell_two HL.out.net.blk 0 rfl
    have s1 := cell_two HL.out.net.blk 1 rfl
    have s2 := cell_two HL.out.net.blk 2 rfl
    have s3 := cell_two HL.out.net.blk 3 rfl
    by_cases hlt : k < ms.length
    · have hlt' : decide ((k : Int) < (ms.length : Int)) = true := decide_eq_true (by omega)
      have k0 : (0 : Int) ≤ (k : Int) := Int.natCast_nonneg k
      have k1 : (k : Int) < (ms.length : Int) := by omega
      have hp8 : p ≤ 256 := by rw [HP.out.1]; exact Nat.le_trans (Nat.pow_le_pow_right (by decide) (by omega : k ≤ 8)) (by decide)
      have hsp : s < p := by rw [HP.out.1]; exact HP.out.2.1
      have hw1 := add_w hsp hp8
      have hw2 := mul_w hp8
      obtain ⟨ad, e, g0, g1, g2, g3⟩ := at_T54 HL.out.net.mr k k0 k1
      cases e
      simp only [Int.toNat_natCast] at g0 g1 g2 g3
      have hv := (mains_ok HOK.out.mok k hlt).2.2.1
      obtain ⟨v, hvv⟩ : ∃ v, (rd_T54 ms (k : Int)).f2 = v := ⟨_, rfl⟩
      rw [hvv] at g2 hv
      have HV := Aside0.mk hvv
      clear hvv g0 g1 g3 hsp hp8
      have hpk : 2 ^ (k + 1) = 2 * 2 ^ k := by rw [Nat.pow_succ]; omega
      have HIN : Aside0 (v ≠ 1 → (2 * p = 2 ^ (k + 1) ∧ s + p < 2 ^ (k + 1) ∧ ∀ t, t < k + 1 → mayK ms (s + p) t = true)) := ⟨fun hv1 => by
        obtain ⟨h1, h2, h3⟩ := HP.out
        refine ⟨by omega, by omega, fun t ht => ?_⟩
        rw [h1]
        by_cases e : t = k
        · subst e
          unfold mayK
          rw [bit_top h2, HV.out]
          simp [hv1]
        · rw [mayK_low (by omega)]
          exact h3 t (by omega)⟩
      have HOUT : Aside0 (v ≠ 0 → (2 * p = 2 ^ (k + 1) ∧ s < 2 ^ (k + 1) ∧ ∀ t, t < k + 1 → mayK ms s t = true)) := ⟨fun hv1 => by
        obtain ⟨h1, h2, h3⟩ := HP.out
        refine ⟨by omega, by omega, fun t ht => ?_⟩
        by_cases e : t = k
        · subst e
          unfold mayK
          rw [Nat.testBit_lt_two_pow h2, HV.out]
          simp [hv1]
        · exact h3 t (by omega)⟩
      clear hpk
      by_cases hv0 : v = 0
      · have d0 : (v == 0) = true := by rw [hv0]; rfl
        have HX := Aside0.mk (HIN.out (by omega))
        clear hv0 hv
        go_wp2_with (fail)
        go_roundw
        case rel => exact ⟨k + 1, s + p, 2 * p, z, by go_num, by omega, by go_num, by go_num, by omega, HX, HL⟩
        case measure => simp [intOf]; omega
      · have d0 : (v == 0) = false := by rw [beq_eq_false_iff_ne]; exact hv0
        by_cases hv2 : v = 2
        · have d2 : (v == 2) = true := by rw [hv2]; rfl
          have HX := Aside0.mk (HIN.out (by omega))
          have HY := Aside0.mk (HOUT.out hv0)
          clear hv0 hv2 hv
          go_wp2_with (first
            | (go_at_call 27; (with_reducible refine (gasworkslaw06_span.calls 0 1 0 1 _ rfl).mono ?_); rintro e W1 ⟨rfl, hb⟩; have H1 := Aside0.mk (HL.out.next hb); clear hb s0 s1 s2 s3 g2)
            | (go_at_call 48; refine (HDr.out z 0 1 _ (by omega) (by decide) (by decide) (by decide) H1.out).mono ?_; rintro e W2 ⟨x, rfl, hx0, hx1, hT, hB⟩; have H2 := Aside0.mk hT; have HB2 := Aside0.mk (And.intro hx0 hx1); clear hT hB hx0 hx1))
          · go_roundw
            case rel => exact ⟨k + 1, s + p, 2 * p, z + 1, by go_num, by omega, by go_num, by go_num, by omega, HX, H2⟩
            case measure => simp [intOf]; omega
          · go_roundw
            case rel => exact ⟨k + 1, s, 2 * p, z + 1, by go_num, by omega, rfl, by go_num, by omega, HY, H2⟩
            case measure => simp [intOf]; omega
        · have d2 : (v == 2) = false := by rw [beq_eq_false_iff_ne]; exact hv2
          have HY := Aside0.mk (HOUT.out hv0)
          clear hv0 hv2 hv
          go_wp2_with (fail)
          go_roundw
          case rel => exact ⟨k + 1, s, 2 * p, z, by go_num, by omega, rfl, by go_num, by omega, HY, HL⟩
          case measure => simp [intOf]; omega
    · have hlt' : decide ((k : Int) < (ms.length : Int)) = false := decide_eq_false (by omega)
      have ek : k = ms.length := by omega
      have HMY : Aside0 (s < 2 ^ ms.length ∧ mayTo ms s ms.length 0 = true) := ⟨by
        obtain ⟨_, h2, h3⟩ := HP.out
        rw [ek] at h2 h3
        exact ⟨h2, mayTo_all _ _ (fun t _ ht => h3 t (by omega))⟩⟩
      clear ek HP
      go_wp2_with (fail)
      clear s0 s1 s2 s3
      have hz8 : z ≤ 8 := by omega
      go_loopw [12, 13] (fun v i wr2 => ∃ (j z2 : Nat) (Av : Option Addr) (cv : Nat) (d : List Int), i = .int .i64 (j : Int) ∧ j ≤ js.length ∧ v = .slice Av d.length cv ∧ z2 ≤ 8 + j ∧ Aside0 (d.length = j ∧ ∀ t : Nat, t < j → (rd_T50 js (t : Int)).f0.f0 ≤ rd d (t : Int) ∧ rd d (t : Int) ≤ (rd_T50 js (t : Int)).f0.f1) ∧ Aside0 (TrAt w wr2 lo hi A c js A' c' ms Ab cb lb z2) ∧ Aside0 (Kd.R (Kd.int .i64) 3 wr2 w.heap.size (fun b => w.heap.size + 2 < b) (.slice Av d.length cv) d)) (fun _ i _ => js.length - (intOf i).toNat)
      case atStart => exact ⟨0, z, none, 0, [], rfl, by omega, rfl, by omega, ⟨rfl, fun t h => absurd h (Nat.not_lt_zero t)⟩, HL, ⟨Kd.R_nil _ _ _ _ _⟩⟩
      case round =>
        clear HL hlt hlt' hzk hz8 hk
        obtain ⟨j, z2, Av, cv, d, rfl, hj, rfl, hz2, HD, HL, HV⟩ := hrel
        have s0 := cell_two HL.out.net.blk 0 rfl
        have s1 := cell_two HL.out.net.blk 1 rfl
        have s2 := cell_two HL.out.net.blk 2 rfl
        have s3 := cell_two HL.out.net.blk 3 rfl
        by_cases hlt : j < js.length
        · have hlt' : decide ((j : Int) < (js.length : Int)) = true := decide_eq_true (by omega)
          have k0 : (0 : Int) ≤ (j : Int) := Int.natCast_nonneg j
          have k1 : (j : Int) < (js.length : Int) := by omega
          obtain ⟨ad, e, g0, g1, g2, g3, g4⟩ := at_T50 HL.out.net.jr j k0 k1
          cases e
          simp only [Int.toNat_natCast] at g0 g1 g2 g3 g4
          have hjn := (junction_ok HOK.out.jok j).1
          obtain ⟨n0, h0⟩ : ∃ x, (rd_T50 js (j : Int)).f0.f0 = x := ⟨_, rfl⟩
          obtain ⟨n1, h1⟩ : ∃ x, (rd_T50 js (j : Int)).f0.f1 = x := ⟨_, rfl⟩
          rw [h0, h1] at hjn
          rw [h0] at g0
          rw [h1] at g1
          have HN := Aside0.mk (And.intro h0 h1)
          have hz3 : z2 ≤ 1000000 := by omega
          have hn1 : n1 ≤ 1099511627776 := by omega
          have HNB := Aside0.mk (And.intro hz3 (And.intro hjn.1 (And.intro hjn.2.1 hn1)))
          have hln : (d.length + 1) * 8 ≤ 140737488355328 := by have := HD.out.1; omega
          clear h0 h1 hjn hz3 hn1 g2 g3 g4
          go_wp2_with (first
            | ((with_reducible refine gate_builtin (b := .append) (xs := #[.tmp 56, .tmp 65]) rfl ?_); at_builtin; (refine Kd.R_append (Kd.int .i64) (w0 := w) w.heap.size rfl (.tmp 56) (.tmp 65) 37 3 (.int .i64 0) 8 rfl Try.underlying37 info3 rfl (by decide) (by omega) (.slice Av d.length cv) d x [.int .i64 x] (fun b => w.heap.size + 2 < b) (fun _ => False) rfl rfl rfl (fun _ hk => hk.elim) HFR.out HV2.out H2.out.net.bel H2.out.net.bel.size hln ?_); intro v2 w2 ho hb hg hat; obtain ⟨A2, c2, rfl⟩ := Kd.R_slice ho; have H3 : Aside0 (TrAt w w2 lo hi (some ad) c js A' c' ms Ab cb lb (z2 + 1)) := ⟨⟨⟨blk_grown H2.out.net.blk hg (Kd.R_ne HV2.out H2.out.net.blk (by decide)), Kd.C_below HR.out hb, Kd.C_below HR'.out hb, hb⟩, ⟨blk_grown H2.out.dr.bz hg (fun e => by have := HV2.out.1 _ e.symm; omega), blk_grown H2.out.dr.bY hg (Kd.R_ne HV2.out H2.out.dr.bY (by decide)), hb⟩⟩⟩; have HO3 := Aside0.mk ho; clear ho hb hg hat)
            | ((with_reducible refine gate_dst (N := 64) rfl ?_); refine goesF_ (some 64) rfl rfl Try.func48 (by kernel_rfl) rfl #[.agg #[.int .i64 n0, .int .i64 n1]] rfl rfl (by (try simp only [LM_]); try rfl) ?_; refine (HDr.out z2 n0 n1 _ HNB.out.1 HNB.out.2.1 HNB.out.2.2.1 HNB.out.2.2.2 HL.out).mono ?_; rintro e W2 ⟨x, rfl, hx0, hx1, hT, hB⟩; refine ⟨_, rfl, ?_⟩; have H2 := Aside0.mk hT; have HX2 := Aside0.mk (And.intro hx0 hx1); have HV2 := Aside0.mk (Kd.R_step HV.out (fun b hb hlt => hB.2 b hlt (by omega))); have HFR : Aside0 (∀ b, W2.heap.size ≤ b → w.heap.size + 2 < b) := ⟨fun b h => by have := blk_lt H2.out.dr.bz; omega⟩; clear hT hB hx0 hx1 s0 s1 s2 s3 g0 g1))
          go_roundw
          case rel =>
            refine ⟨j + 1, z2 + 1, A2, c2, d ++ [x], by go_num, by omega, by simp, by omega, ⟨?_, fun t ht => ?_⟩, H3, ⟨by simpa using HO3.out⟩⟩
            · rw [List.length_append, HD.out.1]
              rfl
            · by_cases e : t = j
              · subst e
                have hrx : rd (d ++ [x]) (t : Int) = x := by
                  have := rd_snoc_eq (d := d) (x := x)
                  rwa [HD.out.1] at this
                rw [hrx, HN.out.1, HN.out.2]
                exact HX2.out
              · rw [rd_snoc_lt (by rw [HD.out.1]; omega)]
                exact HD.out.2 t (by omega)
          case measure => simp [intOf]; omega
        · have hlt' : decide ((j : Int) < (js.length : Int)) = false := decide_eq_false (by omega)
          have ej : j = js.length := by omega
          have HDF : Aside0 (d.length = js.length ∧ ∀ t : Nat, t < js.length → (rd_T50 js (t : Int)).f0.f0 ≤ rd d (t : Int) ∧ rd d (t : Int) ≤ (rd_T50 js (t : Int)).f0.f1) := ⟨by rw [← ej]; exact HD.out⟩
          have HNB : Aside0 (z2 ≤ 1000000 ∧ 0 ≤ lo ∧ lo ≤ hi ∧ hi ≤ 1099511627776) := ⟨by omega, HOK.out.src⟩
          clear ej HD
          go_wp2_with (go_at_call 48; refine (HDr.out z2 lo hi _ HNB.out.1 HNB.out.2.1 HNB.out.2.2.1 HNB.out.2.2.2 HL.out).mono ?_; rintro e W2 ⟨x, rfl, hx0, hx1, hT, hB⟩; have H2 := Aside0.mk hT; have HX2 := Aside0.mk (And.intro hx0 hx1); have HV2 := Aside0.mk (Kd.R_step HV.out (fun b hb hlt => hB.2 b hlt (by omega))); clear hT hB hx0 hx1 s0 s1 s2 s3)
          go_ret3
          exact ⟨s, _, d, x, rfl, Kd.R_mono HV2.out (fun _ _ => trivial), ⟨HMY.out.1, HMY.out.2, HDF.out.1, HDF.out.2, HX2.out⟩, H2.out.net.bel⟩
end Go.Proofs.Ytbjinkkmakhbaaa.Print
